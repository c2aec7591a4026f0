/- Part 3 of the proof of LLetterNames: what it needs of the library, the walks and the plain laws. Conditions: those named in each theorem. -/
import Derived.Test.YtcikgnbpcombpaaLLetterNamesM2
namespace Go.Proofs.Ytcikgnbpcombpaa
section
set_option linter.unusedVariables false
set_option linter.unusedSimpArgs false
set_option maxRecDepth 4000
theorem fnOk103 : fnOk Try.prog 103 = true := by kernel_rfl
theorem fnOk32 : fnOk Try.prog 32 = true := by kernel_rfl
theorem tz113 : tz Try.prog 113 = some [.slice none 0 0, .int .i64 0, .bool false] := by kernel_rfl
theorem bRead_ok (W : World) {v0 : Value} {d0 : List UInt8} (h0 : Rd (.sl .byte) (wm W) [v0] d0) : CallR Try.prog 97 [v0] W (mnil) (fun v m' => ∃ (s0 : Value), v = .tuple #[s0, .int .i64 ((bRead d0).2.1), .int .i64 ((bRead d0).2.2)] ∧ Ow (.sl TOp) m' [s0] ((bRead d0).1)) := by
  obtain ⟨A0, c0, rfl, l0, k0⟩ := h0.slice
  simp only [maxLen] at k0
  refine CallR.ofA (n := 48) Try.func97 rfl rfl rfl ?_
  refine VC.rs ?_
  refine VO.as ?_
  refine VO.as ?_
  refine VO.as ?_
  refine VO.k4 0 2 3 4 ?_
  refine VC.rs ?_
  refine VO.mv ?_
  refine VO.y rfl (.bst (cs := [Value.slice A0 (d0.length) (c0), Value.int .i64 (0), Value.bool false]) rfl tst113 tz113 rfl) ?_
  refine VO.box (cs := [Value.slice A0 (d0.length) (c0), Value.int .i64 (0), Value.bool false]) 102 rfl rfl rfl (fun g1 => ?_)
  refine VO.as ?_
  refine VO.k5 0 2 3 4 5 ?_
  refine VC.rs ?_
  refine VO.as ?_
  refine VO.keep [102, 0] [(102, mone g1 (.cells [Value.slice A0 (d0.length) (c0), Value.int .i64 (0), Value.bool false].toArray 113 (0, 0))), (0, wm W)] (by kernel_rfl) ?_
  refine VO.k6 0 2 3 4 5 6 ?_
  refine VC.seq ?_
  refine VC.rs ?_
  refine VO.mv ?_
  refine VO.call 102 rfl fnOk102 rfl rfl (fun W hW => bNum_ok W (d0 := (d0, 0, false)) (hW.at (i := 102) rfl) (Rd.mono h0 (hW.out (i := 102) (j := 0) rfl rfl)) bdk 8 bdk (by first | assumption | exact ⟨by omega, by omega⟩ | exact ⟨by (simp; done), by (simp; done)⟩)) (fun v3 m3 hv3 => ?_)
  try dsimp only at hv3
  obtain ⟨rfl, rfl, w3_0_1⟩ := hv3
  have hfa4 := (rNum_ok (B := d0) (m := 8) (s := (0, false)) (by first | assumption | exact ⟨by omega, by omega⟩ | exact ⟨by (simp; done), by (simp; done)⟩) (by omega)).1
  have hfa5 := (rNum_ok (B := d0) (m := 8) (s := (0, false)) (by first | assumption | exact ⟨by omega, by omega⟩ | exact ⟨by (simp; done), by (simp; done)⟩) (by omega)).1.1
  have hfa6 := (rNum_ok (B := d0) (m := 8) (s := (0, false)) (by first | assumption | exact ⟨by omega, by omega⟩ | exact ⟨by (simp; done), by (simp; done)⟩) (by omega)).1.2
  have hfa7 := (rNum_ok (B := d0) (m := 8) (s := (0, false)) (by first | assumption | exact ⟨by omega, by omega⟩ | exact ⟨by (simp; done), by (simp; done)⟩) (by omega)).2
  simp only [inK] at w3_0_1
  refine VO.as ?_
  refine VO.k7 0 2 3 4 5 6 7 ?_
  refine VC.block ?_
  refine VC.inv ((108, mnil) :: _) (fun _ h => h.nilc 108) ?_
  refine VC.loop (G := Int × (List UInt8) × (List DOp) × (Option Addr) × Nat × Mem × Int × Bool) (fun g => [(2, Value.slice (g.2.2.2.1) ((g.2.2.1).length) ((g.2.2.2.2.1))), (6, str ((g.2.1))), (7, Value.int .i64 ((g.1))), (0, Value.slice A0 (d0.length) (c0)), (3, Value.int .i64 (0)), (4, Value.int .i64 (0)), (5, Value.pointer (some ⟨g1, 0, none⟩))]) (fun g => [(108, (g.2.2.2.2.2.1)), (102, mone g1 (.cells [Value.slice A0 (d0.length) (c0), Value.int .i64 ((g.2.2.2.2.2.2.1)), Value.bool (g.2.2.2.2.2.2.2)].toArray 113 (0, 0))), (0, wm W)]) (fun g => (pOps d0 (rNum d0 8 (0, false)).1.toNat [] (rNum d0 8 (0, false)).2 = ((g.2.2.1) ++ (pOps d0 (g.1).toNat (g.2.1) ((g.2.2.2.2.2.2.1), (g.2.2.2.2.2.2.2))).1, (pOps d0 (g.1).toNat (g.2.1) ((g.2.2.2.2.2.2.1), (g.2.2.2.2.2.2.2))).2)) ∧ (rOk d0 ((g.2.2.2.2.2.2.1), (g.2.2.2.2.2.2.2))) ∧ ((g.1) ≤ 8) ∧ ((g.2.2.1).length + (g.1).toNat ≤ 8) ∧ ((g.2.1).length + 16 * (g.1).toNat ≤ 128) ∧ (OwnL TOp (g.2.2.2.2.2.1) mnil (.slice (g.2.2.2.1) (g.2.2.1).length (g.2.2.2.2.1)) (g.2.2.1))) (fun g => (g.1).toNat) ((rNum d0 8 (0, false)).1, [], [], none, 0, mnil, (rNum d0 8 (0, false)).2.1, (rNum d0 8 (0, false)).2.2) (⟨by rfl, by assumption, by omega, by (simp; omega), by (simp; omega), (OwnL.nil TOp mnil mnil)⟩) ⟨⟨rfl, rfl, rfl, rfl, rfl, rfl, rfl, trivial⟩, fun _ h => h.sub [108, 102, 0]⟩ ?_
  rintro ⟨k, last, l, l_A, l_c, l_m, at_, bad⟩ ⟨hp, hok, hk, hlen, hla, h_l⟩
  replace hp : pOps d0 (rNum d0 8 (0, false)).1.toNat [] (rNum d0 8 (0, false)).2 = (l ++ (pOps d0 k.toNat last (at_, bad)).1, (pOps d0 k.toNat last (at_, bad)).2) := hp
  replace hok : rOk d0 (at_, bad) := hok
  replace hk : k ≤ 8 := hk
  replace hlen : l.length + k.toNat ≤ 8 := hlen
  replace hla : last.length + 16 * k.toNat ≤ 128 := hla
  replace h_l : OwnL TOp l_m mnil (.slice l_A l.length l_c) l := h_l
  show VC _ _ _ _ _ [(2, Value.slice l_A (l.length) (l_c)), (6, str (last)), (7, Value.int .i64 (k)), (0, Value.slice A0 (d0.length) (c0)), (3, Value.int .i64 (0)), (4, Value.int .i64 (0)), (5, Value.pointer (some ⟨g1, 0, none⟩))] [(108, l_m), (102, mone g1 (.cells [Value.slice A0 (d0.length) (c0), Value.int .i64 (at_), Value.bool bad].toArray 113 (0, 0))), (0, wm W)]
  have l_l : l.length ≤ l_c := by obtain ⟨_, _, he, hl, _⟩ := h_l.slice; simp only [Value.slice.injEq] at he; omega
  have k_l : l_c ≤ 9223372036854775807 := by obtain ⟨_, _, he, _, hl⟩ := h_l.slice; simp only [Value.slice.injEq, maxLen] at he hl; omega
  obtain ⟨hoka, hokb⟩ := (show 0 ≤ at_ ∧ at_ ≤ d0.length from hok)
  refine VC.seq ?_
  refine VC.rs ?_
  refine VO.mv ?_
  refine VO.y rfl (.gtr rfl rfl) ?_
  refine VO.mv ?_
  refine VO.dec (t := 16) rfl (fun hc9 => ?_) (fun hc9 => ?_)
  · -- T
    refine VO.gy rfl ⟨_, rfl, rfl⟩ (.mv rfl) ?_
    refine VO.gy rfl ⟨_, rfl, rfl⟩ (.nilp rfl) ?_
    refine VO.gy rfl ⟨_, rfl, rfl⟩ (.fa rfl tst113 rfl) ?_
    refine VO.gy rfl ⟨_, rfl, rfl⟩ (.ld1 102 rfl tk4 rfl (cellsAt_one rfl rfl)) ?_
    refine VO.gy rfl ⟨_, rfl, rfl⟩ (.not rfl) ?_
    refine VO.y rfl (.pT rfl rfl) ?_
    refine VO.k8 0 2 3 4 5 6 7 22 ?_
    refine VC.condBN rfl (fun hc10 => ?_) (fun hc10 => ?_)
    · -- TT
      refine VC.skip ?_
      refine outN ?_
      refine VC.seq ?_
      refine VC.block ?_
      refine VC.rs ?_
      refine VO.mv ?_
      refine VO.mv ?_
      refine VO.call 102 rfl fnOk103 rfl rfl (fun W hW => bOp_ok W (d0 := (d0, at_, bad)) (hW.at (i := 102) rfl) (Rd.mono h0 (hW.out (i := 102) (j := 0) rfl rfl)) bdk last bdm (by first | assumption | exact ⟨by omega, by omega⟩ | exact ⟨by (simp; done), by (simp; done)⟩) bd) (fun v11 m11 hv11 => ?_)
      try dsimp only at hv11
      obtain ⟨s11_0, rfl, f11_0, rfl, w11_0_1⟩ := hv11
      have hfa12 := (rOp_ok (B := d0) (last := last) (s := (at_, bad)) (by first | assumption | exact ⟨by omega, by omega⟩ | exact ⟨by (simp; done), by (simp; done)⟩) (by omega)).1
      have hfa13 := (rOp_ok (B := d0) (last := last) (s := (at_, bad)) (by first | assumption | exact ⟨by omega, by omega⟩ | exact ⟨by (simp; done), by (simp; done)⟩) (by omega)).1.1
      have hfa14 := (rOp_ok (B := d0) (last := last) (s := (at_, bad)) (by first | assumption | exact ⟨by omega, by omega⟩ | exact ⟨by (simp; done), by (simp; done)⟩) (by omega)).1.2
      have hfa15 := (rOp_ok (B := d0) (last := last) (s := (at_, bad)) (by first | assumption | exact ⟨by omega, by omega⟩ | exact ⟨by (simp; done), by (simp; done)⟩) (by omega)).2.1
      have hfa16 := (rOp_ok (B := d0) (last := last) (s := (at_, bad)) (by first | assumption | exact ⟨by omega, by omega⟩ | exact ⟨by (simp; done), by (simp; done)⟩) (by omega)).2.2
      simp only [inK] at w11_0_1
      obtain ⟨rfl, q11_0_1, q11_0_2⟩ := open_Op (x0 := ((rOp d0 last (at_, bad)).1).1) (x1 := ((rOp d0 last (at_, bad)).1).2.1) (x2 := ((rOp d0 last (at_, bad)).1).2.2) (f11_0.rd (mle_refl _))
      simp only [maxLen] at q11_0_1
      simp only [maxLen] at q11_0_2
      refine VO.alloc 118 rfl tz40 (fun g17 => ?_)
      refine VO.store (k := 3) (c' := [Value.bool (((rOp d0 last (at_, bad)).1).1), str (((rOp d0 last (at_, bad)).1).2.1), str (((rOp d0 last (at_, bad)).1).2.2)]) 118 rfl rfl (.inl tk40) rfl rfl rfl rfl rfl ?_
      refine VO.keep [118, 102, 108, 0] [(118, mone g17 (.cells [Value.bool (((rOp d0 last (at_, bad)).1).1), str (((rOp d0 last (at_, bad)).1).2.1), str (((rOp d0 last (at_, bad)).1).2.2)].toArray 40 (0, 0))), (102, mone g1 (.cells [Value.slice A0 (d0.length) (c0), Value.int .i64 ((rOp d0 last (at_, bad)).2.1), Value.bool ((rOp d0 last (at_, bad)).2.2)].toArray 113 (0, 0))), (108, l_m), (0, wm W)] (by kernel_rfl) ?_
      refine VO.k9 0 2 3 4 5 6 7 8 22 ?_
      refine VC.rs ?_
      refine VO.mv ?_
      refine VO.y rfl (.ldA 118 rfl tk40 rfl (cellsAt_one rfl rfl)) ?_
      refine VO.bsl (cs := [Value.bool (((rOp d0 last (at_, bad)).1).1), str (((rOp d0 last (at_, bad)).1).2.1), str (((rOp d0 last (at_, bad)).1).2.2)]) 120 rfl rfl tsl41 tz40 rfl rfl (fun g19 => ?_)
      obtain ⟨mo21, cs21, hM21, hA21, hC21⟩ := h_l
      refine VO.app 108 rfl rfl rfl tsl41 tz40 rfl rfl hM21 hA21 (.row 120 _ _ _ 1 1 _ _ Try.underlying41 rfl (cellsAt_one rfl rfl)) (by simp [Value.oneCell']) bdm bd (by decide) (fun v21 m21 hN21 => ?_)
      have ho21 : OwnL TOp m21 mnil v21 (l ++ [((rOp d0 last (at_, bad)).1)]) := OwnL.one hC21 hN21 (show Rd TOp _ _ ((rOp d0 last (at_, bad)).1) from (mk_Op (m := _) (((rOp d0 last (at_, bad)).1).1) (((rOp d0 last (at_, bad)).1).2.1) (((rOp d0 last (at_, bad)).1).2.2) bdm bdm))
      obtain ⟨A21, c21, rfl, l21, k21⟩ := ho21.slice
      simp only [maxLen] at k21
      refine VO.as ?_
      refine VO.k9 0 2 3 4 5 6 7 8 22 ?_
      refine VC.reg ?_
      refine VO.y rfl (.fa rfl tst40 rfl) ?_
      refine VO.y rfl (.ld1 118 rfl tk9 rfl (cellsAt_one rfl rfl)) ?_
      refine VO.as ?_
      refine VO.k9 0 2 3 4 5 6 7 8 22 ?_
      refine outBN ?_
      refine outN ?_
      refine VC.reg ?_
      refine VO.mv ?_
      refine VO.y rfl (.sub rfl rfl rfl ⟨bd, bd⟩) ?_
      refine VO.as ?_
      refine VO.keep [118, 102, 108, 0] [(118, mone g17 (.cells [Value.bool (((rOp d0 last (at_, bad)).1).1), str (((rOp d0 last (at_, bad)).1).2.1), str (((rOp d0 last (at_, bad)).1).2.2)].toArray 40 (0, 0))), (102, mone g1 (.cells [Value.slice A0 (d0.length) (c0), Value.int .i64 ((rOp d0 last (at_, bad)).2.1), Value.bool ((rOp d0 last (at_, bad)).2.2)].toArray 113 (0, 0))), (108, m21), (0, wm W)] (by kernel_rfl) ?_
      refine VO.k9 0 2 3 4 5 6 7 8 22 ?_
      exact outN ⟨⟨k - 1, ((rOp d0 last (at_, bad)).1).2.1, l ++ [((rOp d0 last (at_, bad)).1)], A21, c21, m21, (rOp d0 last (at_, bad)).2.1, (rOp d0 last (at_, bad)).2.2⟩, ⟨by exact ops_step hp (by omega) (by assumption), by assumption, by omega, by (simp only [List.length_append, List.length_cons, List.length_nil]; omega), by dsimp only; omega, ho21⟩, bd, ⟨⟨rfl, rfl, rfl, rfl, rfl, rfl, rfl, trivial⟩, fun _ h => Inv.sub h [108, 102, 0]⟩⟩
    · -- TF
      refine VC.exit ?_
      refine outE ?_
      refine outE ?_
      refine outBB ?_
      refine outN ?_
      refine VC.seq ?_
      refine VC.rs ?_
      refine VO.mv ?_
      refine VO.y rfl (.nilp rfl) ?_
      refine VO.y rfl (.fa rfl tst113 rfl) ?_
      refine VO.y rfl (.ld1 102 rfl tk4 rfl (cellsAt_one rfl rfl)) ?_
      refine VO.mv ?_
      refine VO.known (t := 38) true rfl hc10 ?_
      refine VO.gN ?_
      refine VO.gN ?_
      refine VO.gN ?_
      refine VO.y rfl (.pT rfl rfl) ?_
      refine VO.keep [108, 102, 0] [(108, l_m), (102, mone g1 (.cells [Value.slice A0 (d0.length) (c0), Value.int .i64 (at_), Value.bool bad].toArray 113 (0, 0))), (0, wm W)] (by kernel_rfl) ?_
      refine VO.k9 0 2 3 4 5 6 7 22 42 ?_
      refine VC.condT rfl ?_
      refine VC.rs ?_
      refine VO.as ?_
      refine VO.as ?_
      refine VO.as ?_
      refine VO.k9 0 2 3 4 5 6 7 22 42 ?_
      refine VC.ret ?_
      refine outR ?_
      refine ⟨_, _, res_run (rs := [.tmp 2, .tmp 3, .tmp 4]) rfl (.tmp rfl (.tmp rfl (.tmp rfl .nil))), fun W_ hI => out_of (l := []) hI [] rfl rfl (mle_refl _) (fun hS_ => ?_)⟩
      dsimp only [packV]
      have he0 : ((bRead d0).1 : Ty.Den (.sl TOp)) = [] := by first | rfl | (have hf := ops_end hp (by first | exact .inl (by omega) | exact .inr (by assumption)); first | (rw [bRead_bad (Prod.ext hf.1 hf.2) (by first | exact .inl (by assumption) | exact .inr (by assumption))] <;> rfl) | (rw [bRead_good (Prod.ext hf.1 hf.2) (by assumption) (by omega)] <;> rfl))
      refine ⟨Value.slice none (0) (0), ?_, ?_⟩
      rotate_left
      · rw [he0]; exact (Ow.nil _ _)
      all_goals (first | rfl | (have hf := ops_end hp (by first | exact .inl (by omega) | exact .inr (by assumption)); first | (rw [bRead_bad (Prod.ext hf.1 hf.2) (by first | exact .inl (by assumption) | exact .inr (by assumption))] <;> rfl) | (rw [bRead_good (Prod.ext hf.1 hf.2) (by assumption) (by omega)] <;> rfl)))
  · -- F
    refine VO.gN ?_
    refine VO.gN ?_
    refine VO.gN ?_
    refine VO.gN ?_
    refine VO.gN ?_
    refine VO.y rfl (.pF rfl rfl) ?_
    refine VO.k8 0 2 3 4 5 6 7 22 ?_
    refine VC.condF rfl ?_
    refine VC.exit ?_
    refine outE ?_
    refine outE ?_
    refine outBB ?_
    refine outN ?_
    refine VC.seq ?_
    refine VC.rs ?_
    refine VO.mv ?_
    refine VO.y rfl (.nilp rfl) ?_
    refine VO.y rfl (.fa rfl tst113 rfl) ?_
    refine VO.y rfl (.ld1 102 rfl tk4 rfl (cellsAt_one rfl rfl)) ?_
    refine VO.mv ?_
    refine VO.decB (t := 38) rfl (fun hc22 => ?_) (fun hc22 => ?_)
    · -- FT
      refine VO.gN ?_
      refine VO.gN ?_
      refine VO.gN ?_
      refine VO.y rfl (.pT rfl rfl) ?_
      refine VO.keep [108, 102, 0] [(108, l_m), (102, mone g1 (.cells [Value.slice A0 (d0.length) (c0), Value.int .i64 (at_), Value.bool bad].toArray 113 (0, 0))), (0, wm W)] (by kernel_rfl) ?_
      refine VO.k9 0 2 3 4 5 6 7 22 42 ?_
      refine VC.condT rfl ?_
      refine VC.rs ?_
      refine VO.as ?_
      refine VO.as ?_
      refine VO.as ?_
      refine VO.k9 0 2 3 4 5 6 7 22 42 ?_
      refine VC.ret ?_
      refine outR ?_
      refine ⟨_, _, res_run (rs := [.tmp 2, .tmp 3, .tmp 4]) rfl (.tmp rfl (.tmp rfl (.tmp rfl .nil))), fun W_ hI => out_of (l := []) hI [] rfl rfl (mle_refl _) (fun hS_ => ?_)⟩
      dsimp only [packV]
      have he0 : ((bRead d0).1 : Ty.Den (.sl TOp)) = [] := by first | rfl | (have hf := ops_end hp (by first | exact .inl (by omega) | exact .inr (by assumption)); first | (rw [bRead_bad (Prod.ext hf.1 hf.2) (by first | exact .inl (by assumption) | exact .inr (by assumption))] <;> rfl) | (rw [bRead_good (Prod.ext hf.1 hf.2) (by assumption) (by omega)] <;> rfl))
      refine ⟨Value.slice none (0) (0), ?_, ?_⟩
      rotate_left
      · rw [he0]; exact (Ow.nil _ _)
      all_goals (first | rfl | (have hf := ops_end hp (by first | exact .inl (by omega) | exact .inr (by assumption)); first | (rw [bRead_bad (Prod.ext hf.1 hf.2) (by first | exact .inl (by assumption) | exact .inr (by assumption))] <;> rfl) | (rw [bRead_good (Prod.ext hf.1 hf.2) (by assumption) (by omega)] <;> rfl)))
    · -- FF
      refine VO.gy rfl ⟨_, rfl, rfl⟩ (.mv rfl) ?_
      refine VO.gcallN 123 rfl ⟨_, rfl, rfl⟩ fnOk89 rfl (fun W hW => bCheck_ok W (OwnL.rd h_l (hW.at (i := 108) rfl) (mle_nil _))) (fun v23 m23 hv23 => ?_)
      subst hv23
      have hfa24 := batchCheck_range l
      refine VO.gy rfl ⟨_, rfl, rfl⟩ (.neq rfl rfl) ?_
      refine VO.y rfl (.pF rfl rfl) ?_
      refine VO.keep [108, 102, 0] [(108, l_m), (102, mone g1 (.cells [Value.slice A0 (d0.length) (c0), Value.int .i64 (at_), Value.bool bad].toArray 113 (0, 0))), (0, wm W)] (by kernel_rfl) ?_
      refine VO.k9 0 2 3 4 5 6 7 22 42 ?_
      refine VC.cond rfl (fun hc25 => ?_) (fun hc25 => ?_)
      · -- FFT
        refine VC.rs ?_
        refine VO.as ?_
        refine VO.as ?_
        refine VO.as ?_
        refine VO.k9 0 2 3 4 5 6 7 22 42 ?_
        refine VC.ret ?_
        refine outR ?_
        refine ⟨_, _, res_run (rs := [.tmp 2, .tmp 3, .tmp 4]) rfl (.tmp rfl (.tmp rfl (.tmp rfl .nil))), fun W_ hI => out_of (l := []) hI [] rfl rfl (mle_refl _) (fun hS_ => ?_)⟩
        dsimp only [packV]
        have he0 : ((bRead d0).1 : Ty.Den (.sl TOp)) = [] := by first | rfl | (have hf := ops_end hp (by first | exact .inl (by omega) | exact .inr (by assumption)); first | (rw [bRead_bad (Prod.ext hf.1 hf.2) (by first | exact .inl (by assumption) | exact .inr (by assumption))] <;> rfl) | (rw [bRead_good (Prod.ext hf.1 hf.2) (by assumption) (by omega)] <;> rfl))
        refine ⟨Value.slice none (0) (0), ?_, ?_⟩
        rotate_left
        · rw [he0]; exact (Ow.nil _ _)
        all_goals (first | rfl | (have hf := ops_end hp (by first | exact .inl (by omega) | exact .inr (by assumption)); first | (rw [bRead_bad (Prod.ext hf.1 hf.2) (by first | exact .inl (by assumption) | exact .inr (by assumption))] <;> rfl) | (rw [bRead_good (Prod.ext hf.1 hf.2) (by assumption) (by omega)] <;> rfl)))
      · -- FFF
        refine VC.skip ?_
        refine outN ?_
        refine VC.seq ?_
        refine VC.regD _ 6 [(0, true), (1, true), (2, true), (3, true), (4, true), (5, true)] follows (by kernel_rfl) (fun _ h => h.sub [108, 102, 0]) ?_
        refine VD.y rfl rfl (.inl rfl) (.mv rfl) ?_
        refine VD.y rfl rfl (.inl rfl) (.mv rfl) ?_
        refine VD.y rfl rfl (.inl rfl) (.nilp rfl) ?_
        refine VD.y rfl rfl (.inl rfl) (.fa rfl tst113 rfl) ?_
        refine VD.y rfl rfl (.inl rfl) (.ld1 102 rfl tk3 rfl (cellsAt_one rfl rfl)) ?_
        refine VD.y rfl rfl (.inl rfl) (.as rfl) ?_
        refine VD.nil rfl ?_ rfl
        refine VO.as ?_
        refine VO.as ?_
        refine VO.k9 0 2 3 4 5 6 7 22 42 ?_
        refine outN ?_
        refine VC.ret ?_
        refine ⟨_, _, res_run (rs := [.tmp 2, .tmp 3, .tmp 4]) rfl (.tmp rfl (.tmp rfl (.tmp rfl .nil))), fun W_ hI => out_of (l := [l_m]) hI [108] rfl rfl (mle_refl _) (fun hS_ => ?_)⟩
        dsimp only [packV]
        have he0 : ((bRead d0).1 : Ty.Den (.sl TOp)) = l := by first | rfl | (have hf := ops_end hp (by first | exact .inl (by omega) | exact .inr (by assumption)); first | (rw [bRead_bad (Prod.ext hf.1 hf.2) (by first | exact .inl (by assumption) | exact .inr (by assumption))] <;> rfl) | (rw [bRead_good (Prod.ext hf.1 hf.2) (by assumption) (by omega)] <;> rfl))
        refine ⟨Value.slice l_A (l.length) (l_c), ?_, ?_⟩
        rotate_left
        · rw [he0]; exact (Ow.up (OwnL.ow h_l rfl) (hS_.1 _ (.head _)))
        all_goals (first | rfl | (have hf := ops_end hp (by first | exact .inl (by omega) | exact .inr (by assumption)); first | (rw [bRead_bad (Prod.ext hf.1 hf.2) (by first | exact .inl (by assumption) | exact .inr (by assumption))] <;> rfl) | (rw [bRead_good (Prod.ext hf.1 hf.2) (by assumption) (by omega)] <;> rfl)))
theorem bAppend_ok (W : World) {v0 : Value} {d0 : List UInt8} (h0 : Rd (.sl .byte) (wm W) [v0] d0) {v1 : Value} {d1 : List DOp} (h1 : Rd (.sl TOp) (wm W) [v1] d1) (e0 : d0.length ≤ 140737488352000) : CallR Try.prog 64 [v0, v1] W (mnil) (fun v m' => ∃ (s0 : Value), v = .tuple #[s0, .int .i64 ((bAppend d0 d1).2)] ∧ Ow (.sl .byte) m' [s0] ((bAppend d0 d1).1)) := by
  obtain ⟨A0, c0, rfl, l0, k0⟩ := h0.slice
  simp only [maxLen] at k0
  obtain ⟨A1, c1, rfl, l1, k1⟩ := h1.slice
  simp only [maxLen] at k1
  refine CallR.ofA (n := 70) Try.func64 rfl rfl rfl ?_
  refine VC.rs ?_
  refine VO.as ?_
  refine VO.as ?_
  refine VO.k4 0 1 4 5 ?_
  refine VC.seq ?_
  refine VC.rs ?_
  refine VO.mv ?_
  refine VO.callN 101 rfl fnOk89 rfl (fun W hW => bCheck_ok W (Rd.mono h1 (hW.at (i := 0) rfl))) (fun v1 m1 hv1 => ?_)
  subst hv1
  have hfa2 := batchCheck_range d1
  refine VO.as ?_
  refine VO.k5 0 1 4 5 6 ?_
  refine VC.rs ?_
  refine VO.mv ?_
  refine VO.y rfl (.neq rfl rfl) ?_
  refine VO.keep [0] [(0, wm W)] (by kernel_rfl) ?_
  refine VO.k6 0 1 4 5 6 16 ?_
  refine VC.cond rfl (fun hc3 => ?_) (fun hc3 => ?_)
  · -- T
    refine VC.rs ?_
    refine VO.mv ?_
    refine VO.as ?_
    refine VO.as ?_
    refine VO.k6 0 1 4 5 6 16 ?_
    refine VC.ret ?_
    refine outR ?_
    refine ⟨_, _, res_run (rs := [.tmp 4, .tmp 5]) rfl (.tmp rfl (.tmp rfl .nil)), fun W_ hI => out_of (l := []) hI [] rfl rfl (mle_refl _) (fun hS_ => ?_)⟩
    dsimp only [packV]
    have he0 : ((bAppend d0 d1).1 : Ty.Den (.sl .byte)) = [] := by first | rfl | (first | (rw [bAppend_bad ‹_›] <;> rfl) | (rw [bAppend_good (by omega)]; dsimp only; rw [← he, List.drop_of_length_le (by omega)]; simp [encOps]))
    refine ⟨Value.slice none (0) (0), ?_, ?_⟩
    rotate_left
    · rw [he0]; exact (Ow.nil _ _)
    all_goals (first | rfl | (first | (rw [bAppend_bad ‹_›] <;> rfl) | (rw [bAppend_good (by omega)] <;> rfl)))
  · -- F
    refine VC.skip ?_
    refine outN ?_
    refine VC.rs ?_
    refine VO.mv ?_
    refine VO.mv ?_
    refine VO.y rfl (.lenS rfl tsl41) ?_
    refine VO.y rfl (.cvI rfl ⟨_, Try.underlying3⟩ Try.underlying62 (IntWalk.u64_in _ (by first | omega | (have ho_ := batchCheck_mem (by omega : batchCheck d1 = 0) (List.mem_of_getElem? ‹d1[k]? = some _›); have := ho_.2.1; have := ho_.2.2.1; have := encOp_len (last := last) ho_; have := (batch_len (by omega : batchCheck d1 = 0)).2; omega) | (have ho_ := batchCheck_mem (by omega : batchCheck d1 = 0) (List.mem_of_getElem? ‹d1[k]? = some _›); have := ho_.2.1; have := ho_.2.2.1; have := (batch_len (by omega : batchCheck d1 = 0)).2; simp only [List.length_append, List.length_nil, List.length_cons, List.length_take, List.length_drop] at *; omega)))) ?_
    refine VO.callN 104 rfl fnOk32 rfl (fun W hW => vAppend_ok W (Rd.mono h0 (hW.at (i := 0) rfl)) d1.length (by first | omega | (have ho_ := batchCheck_mem (by omega : batchCheck d1 = 0) (List.mem_of_getElem? ‹d1[k]? = some _›); have := ho_.2.1; have := ho_.2.2.1; have := encOp_len (last := last) ho_; have := (batch_len (by omega : batchCheck d1 = 0)).2; omega) | (have ho_ := batchCheck_mem (by omega : batchCheck d1 = 0) (List.mem_of_getElem? ‹d1[k]? = some _›); have := ho_.2.1; have := ho_.2.2.1; have := (batch_len (by omega : batchCheck d1 = 0)).2; simp only [List.length_append, List.length_nil, List.length_cons, List.length_take, List.length_drop] at *; omega)) (by first | omega | (have ho_ := batchCheck_mem (by omega : batchCheck d1 = 0) (List.mem_of_getElem? ‹d1[k]? = some _›); have := ho_.2.1; have := ho_.2.2.1; have := encOp_len (last := last) ho_; have := (batch_len (by omega : batchCheck d1 = 0)).2; omega) | (have ho_ := batchCheck_mem (by omega : batchCheck d1 = 0) (List.mem_of_getElem? ‹d1[k]? = some _›); have := ho_.2.1; have := ho_.2.2.1; have := (batch_len (by omega : batchCheck d1 = 0)).2; simp only [List.length_append, List.length_nil, List.length_cons, List.length_take, List.length_drop] at *; omega))) (fun v4 m4 hv4 => ?_)
    obtain ⟨s4_0, rfl, f4_0⟩ := hv4
    have hfa5 := venc_len (x := d1.length) (by first | omega | exact or64 (by assumption) _)
    obtain ⟨A4_0, c4_0, eq4_0, l4_0, k4_0⟩ := f4_0.slice
    subst eq4_0
    simp only [maxLen] at k4_0
    refine VO.as ?_
    refine VO.k7 0 1 4 5 6 7 16 ?_
    refine VC.rs ?_
    refine VO.as ?_
    refine VO.k8 0 1 4 5 6 7 8 16 ?_
    refine VC.seq ?_
    refine VC.rs ?_
    refine VO.mv ?_
    refine VO.y rfl (.lenS rfl tsl41) ?_
    refine VO.mv ?_
    refine VO.keep [104, 0] [(104, m4), (0, wm W)] (by kernel_rfl) ?_
    refine VO.k11 0 1 4 5 6 7 8 16 23 24 25 ?_
    refine VC.block ?_
    refine VC.loop (G := Nat × (List UInt8) × (List UInt8) × (Option Addr) × Nat × Mem) (fun g => [(7, Value.slice (g.2.2.2.1) ((g.2.2.1).length) ((g.2.2.2.2.1))), (8, str ((g.2.1))), (25, Value.int .i64 ((((g.1) : Nat) : Int))), (0, Value.slice A0 (d0.length) (c0)), (1, Value.slice A1 (d1.length) (c1)), (4, Value.slice none (0) (0)), (5, Value.int .i64 (0)), (6, Value.int .i64 (batchCheck d1)), (16, Value.bool (decide (¬ (batchCheck d1) = 0))), (23, Value.slice A1 (d1.length) (c1)), (24, Value.int .i64 (((d1.length : Nat) : Int)))]) (fun g => [(104, (g.2.2.2.2.2)), (0, wm W)]) (fun g => ((g.1) ≤ d1.length) ∧ ((g.2.2.1) ++ encOps (g.2.1) (d1.drop (g.1)) = d0 ++ batchEnc d1) ∧ ((g.2.2.1).length ≤ d0.length + 10 + 80 * (g.1)) ∧ ((g.2.1).length ≤ 16) ∧ (OwnL .byte (g.2.2.2.2.2) mnil (.slice (g.2.2.2.1) (g.2.2.1).length (g.2.2.2.2.1)) (g.2.2.1))) (fun g => d1.length - (g.1)) (0, [], d0 ++ venc d1.length, A4_0, c4_0, m4) (⟨by omega, by (simp [batchEnc]), by (have := venc_len (x := d1.length) (by omega); simp; omega), by (simp; done), (Ow.ownl f4_0 rfl mnil)⟩) ⟨⟨rfl, rfl, rfl, rfl, rfl, rfl, rfl, rfl, rfl, rfl, rfl, trivial⟩, fun _ h => h.sub [104, 0]⟩ ?_
    rintro ⟨k, last, out, out_A, out_c, out_m⟩ ⟨hk, he, hlo, hla, h_out⟩
    replace hk : k ≤ d1.length := hk
    replace he : out ++ encOps last (d1.drop k) = d0 ++ batchEnc d1 := he
    replace hlo : out.length ≤ d0.length + 10 + 80 * k := hlo
    replace hla : last.length ≤ 16 := hla
    replace h_out : OwnL .byte out_m mnil (.slice out_A out.length out_c) out := h_out
    show VC _ _ _ _ _ [(7, Value.slice out_A (out.length) (out_c)), (8, str (last)), (25, Value.int .i64 (((k : Nat) : Int))), (0, Value.slice A0 (d0.length) (c0)), (1, Value.slice A1 (d1.length) (c1)), (4, Value.slice none (0) (0)), (5, Value.int .i64 (0)), (6, Value.int .i64 (batchCheck d1)), (16, Value.bool (decide (¬ (batchCheck d1) = 0))), (23, Value.slice A1 (d1.length) (c1)), (24, Value.int .i64 (((d1.length : Nat) : Int)))] [(104, out_m), (0, wm W)]
    have l_out : out.length ≤ out_c := by obtain ⟨_, _, he, hl, _⟩ := h_out.slice; simp only [Value.slice.injEq] at he; omega
    have k_out : out_c ≤ 9223372036854775807 := by obtain ⟨_, _, he, _, hl⟩ := h_out.slice; simp only [Value.slice.injEq, maxLen] at he hl; omega
    refine VC.rs ?_
    refine VO.y rfl (.lss rfl rfl) ?_
    refine VO.k12 0 1 4 5 6 7 8 16 23 24 25 26 ?_
    refine VC.seq ?_
    refine VC.cond rfl (fun hc6 => ?_) (fun hc6 => ?_)
    · -- FT
      refine VC.skip ?_
      refine outN ?_
      refine VC.seq ?_
      refine VC.block ?_
      refine VC.rs ?_
      obtain ⟨x7, hx7⟩ : ∃ z_, (d1)[k]? = some z_ := ⟨_, List.getElem?_eq_getElem (by first | omega | (have ho_ := batchCheck_mem (by omega : batchCheck d1 = 0) (List.mem_of_getElem? ‹d1[k]? = some _›); have := ho_.2.1; have := ho_.2.2.1; have := encOp_len (last := last) ho_; have := (batch_len (by omega : batchCheck d1 = 0)).2; omega) | (have ho_ := batchCheck_mem (by omega : batchCheck d1 = 0) (List.mem_of_getElem? ‹d1[k]? = some _›); have := ho_.2.1; have := ho_.2.2.1; have := (batch_len (by omega : batchCheck d1 = 0)).2; simp only [List.length_append, List.length_nil, List.length_cons, List.length_take, List.length_drop] at *; omega))⟩
      obtain ⟨gg7, oo7, ec7, ea7, hce7, hre7⟩ := h1.elem hx7
      cases ea7
      obtain ⟨rfl, q7_1, q7_2⟩ := open_Op (x0 := x7.1) (x1 := x7.2.1) (x2 := x7.2.2) hre7
      simp only [maxLen] at q7_1
      simp only [maxLen] at q7_2
      refine VO.y rfl (.ixI k rfl rfl tsl41 rfl (by first | omega | (have ho_ := batchCheck_mem (by omega : batchCheck d1 = 0) (List.mem_of_getElem? ‹d1[k]? = some _›); have := ho_.2.1; have := ho_.2.2.1; have := encOp_len (last := last) ho_; have := (batch_len (by omega : batchCheck d1 = 0)).2; omega) | (have ho_ := batchCheck_mem (by omega : batchCheck d1 = 0) (List.mem_of_getElem? ‹d1[k]? = some _›); have := ho_.2.1; have := ho_.2.2.1; have := (batch_len (by omega : batchCheck d1 = 0)).2; simp only [List.length_append, List.length_nil, List.length_cons, List.length_take, List.length_drop] at *; omega))) ?_
      refine VO.y rfl (.ldA 0 rfl tk40 rfl hce7) ?_
      refine VO.alloc 109 rfl tz40 (fun g8 => ?_)
      refine VO.store (k := 3) (c' := [Value.bool x7.1, str (x7.2.1), str (x7.2.2)]) 109 rfl rfl (.inl tk40) rfl rfl rfl rfl rfl ?_
      refine VO.k13 0 1 4 5 6 7 8 10 16 23 24 25 26 ?_
      refine VC.rs ?_
      refine VO.mv ?_
      refine VO.y rfl (.fa rfl tst40 rfl) ?_
      refine VO.y rfl (.ld1 109 rfl tk9 rfl (cellsAt_one rfl rfl)) ?_
      refine VO.callN 110 rfl fnOk90 rfl (fun W hW => shared_ok W last (by simp only [maxLen]; (first | omega | (have ho_ := batchCheck_mem (by omega : batchCheck d1 = 0) (List.mem_of_getElem? ‹d1[k]? = some _›); have := ho_.2.1; have := ho_.2.2.1; have := encOp_len (last := last) ho_; have := (batch_len (by omega : batchCheck d1 = 0)).2; omega) | (have ho_ := batchCheck_mem (by omega : batchCheck d1 = 0) (List.mem_of_getElem? ‹d1[k]? = some _›); have := ho_.2.1; have := ho_.2.2.1; have := (batch_len (by omega : batchCheck d1 = 0)).2; simp only [List.length_append, List.length_nil, List.length_cons, List.length_take, List.length_drop] at *; omega))) x7.2.1 (by simp only [maxLen]; (first | omega | (have ho_ := batchCheck_mem (by omega : batchCheck d1 = 0) (List.mem_of_getElem? ‹d1[k]? = some _›); have := ho_.2.1; have := ho_.2.2.1; have := encOp_len (last := last) ho_; have := (batch_len (by omega : batchCheck d1 = 0)).2; omega) | (have ho_ := batchCheck_mem (by omega : batchCheck d1 = 0) (List.mem_of_getElem? ‹d1[k]? = some _›); have := ho_.2.1; have := ho_.2.2.1; have := (batch_len (by omega : batchCheck d1 = 0)).2; simp only [List.length_append, List.length_nil, List.length_cons, List.length_take, List.length_drop] at *; omega)))) (fun v10 m10 hv10 => ?_)
      subst hv10
      have hfa11 := shared_le last x7.2.1
      refine VO.as ?_
      refine VO.keep [109, 104, 0] [(109, mone g8 (.cells [Value.bool x7.1, str (x7.2.1), str (x7.2.2)].toArray 40 (0, 0))), (104, out_m), (0, wm W)] (by kernel_rfl) ?_
      refine VO.k14 0 1 4 5 6 7 8 10 11 16 23 24 25 26 ?_
      refine VC.rs ?_
      refine VO.as ?_
      refine VO.k15 0 1 4 5 6 7 8 10 11 12 16 23 24 25 26 ?_
      refine VC.seq ?_
      refine VC.rs ?_
      refine VO.y rfl (.fa rfl tst40 rfl) ?_
      refine VO.y rfl (.ld1 109 rfl tk4 rfl (cellsAt_one rfl rfl)) ?_
      refine VO.k16 0 1 4 5 6 7 8 10 11 12 16 23 24 25 26 34 ?_
      refine VC.condB rfl (fun hc12 => ?_) (fun hc12 => ?_)
      · -- FTT
        refine VC.reg ?_
        refine VO.as ?_
        refine VO.keep [109, 104, 0] [(109, mone g8 (.cells [Value.bool x7.1, str (x7.2.1), str (x7.2.2)].toArray 40 (0, 0))), (104, out_m), (0, wm W)] (by kernel_rfl) ?_
        refine VO.k16 0 1 4 5 6 7 8 10 11 12 16 23 24 25 26 34 ?_
        refine outN ?_
        refine VC.rs ?_
        refine VO.mv ?_
        refine VO.mv ?_
        refine VO.bsl (cs := [Value.int .u8 (1)]) 114 rfl rfl tsl30 tz5 rfl rfl (fun g13 => ?_)
        obtain ⟨mo15, cs15, hM15, hA15, hC15⟩ := h_out
        refine VO.app 104 rfl rfl rfl tsl30 tz5 rfl rfl hM15 hA15 (.row 114 _ _ _ 1 1 _ _ Try.underlying30 rfl (cellsAt_one rfl rfl)) (by simp [Value.oneCell']) (by simp only [maxLen]; (first | omega | (have ho_ := batchCheck_mem (by omega : batchCheck d1 = 0) (List.mem_of_getElem? ‹d1[k]? = some _›); have := ho_.2.1; have := ho_.2.2.1; have := encOp_len (last := last) ho_; have := (batch_len (by omega : batchCheck d1 = 0)).2; omega) | (have ho_ := batchCheck_mem (by omega : batchCheck d1 = 0) (List.mem_of_getElem? ‹d1[k]? = some _›); have := ho_.2.1; have := ho_.2.2.1; have := (batch_len (by omega : batchCheck d1 = 0)).2; simp only [List.length_append, List.length_nil, List.length_cons, List.length_take, List.length_drop] at *; omega))) (by first | omega | (have ho_ := batchCheck_mem (by omega : batchCheck d1 = 0) (List.mem_of_getElem? ‹d1[k]? = some _›); have := ho_.2.1; have := ho_.2.2.1; have := encOp_len (last := last) ho_; have := (batch_len (by omega : batchCheck d1 = 0)).2; omega) | (have ho_ := batchCheck_mem (by omega : batchCheck d1 = 0) (List.mem_of_getElem? ‹d1[k]? = some _›); have := ho_.2.1; have := ho_.2.2.1; have := (batch_len (by omega : batchCheck d1 = 0)).2; simp only [List.length_append, List.length_nil, List.length_cons, List.length_take, List.length_drop] at *; omega)) (by decide) (fun v15 m15 hN15 => ?_)
        have ho15 : OwnL .byte m15 mnil v15 (out ++ [UInt8.ofNat 1]) := OwnL.one hC15 hN15 (rd_byteN (by first | omega | (have ho_ := batchCheck_mem (by omega : batchCheck d1 = 0) (List.mem_of_getElem? ‹d1[k]? = some _›); have := ho_.2.1; have := ho_.2.2.1; have := encOp_len (last := last) ho_; have := (batch_len (by omega : batchCheck d1 = 0)).2; omega) | (have ho_ := batchCheck_mem (by omega : batchCheck d1 = 0) (List.mem_of_getElem? ‹d1[k]? = some _›); have := ho_.2.1; have := ho_.2.2.1; have := (batch_len (by omega : batchCheck d1 = 0)).2; simp only [List.length_append, List.length_nil, List.length_cons, List.length_take, List.length_drop] at *; omega)))
        obtain ⟨A15, c15, rfl, l15, k15⟩ := ho15.slice
        simp only [maxLen] at k15
        refine VO.mv ?_
        refine VO.y rfl (.cvI rfl ⟨_, Try.underlying3⟩ Try.underlying62 (IntWalk.u64_in _ (by first | omega | (have ho_ := batchCheck_mem (by omega : batchCheck d1 = 0) (List.mem_of_getElem? ‹d1[k]? = some _›); have := ho_.2.1; have := ho_.2.2.1; have := encOp_len (last := last) ho_; have := (batch_len (by omega : batchCheck d1 = 0)).2; omega) | (have ho_ := batchCheck_mem (by omega : batchCheck d1 = 0) (List.mem_of_getElem? ‹d1[k]? = some _›); have := ho_.2.1; have := ho_.2.2.1; have := (batch_len (by omega : batchCheck d1 = 0)).2; simp only [List.length_append, List.length_nil, List.length_cons, List.length_take, List.length_drop] at *; omega)))) ?_
        refine VO.callN 116 rfl fnOk32 rfl (fun W hW => vAppend_ok W (OwnL.rd ho15 (hW.at (i := 104) rfl) (mle_nil _)) (shared last x7.2.1) (by first | omega | (have ho_ := batchCheck_mem (by omega : batchCheck d1 = 0) (List.mem_of_getElem? ‹d1[k]? = some _›); have := ho_.2.1; have := ho_.2.2.1; have := encOp_len (last := last) ho_; have := (batch_len (by omega : batchCheck d1 = 0)).2; omega) | (have ho_ := batchCheck_mem (by omega : batchCheck d1 = 0) (List.mem_of_getElem? ‹d1[k]? = some _›); have := ho_.2.1; have := ho_.2.2.1; have := (batch_len (by omega : batchCheck d1 = 0)).2; simp only [List.length_append, List.length_nil, List.length_cons, List.length_take, List.length_drop] at *; omega)) (by first | omega | (have ho_ := batchCheck_mem (by omega : batchCheck d1 = 0) (List.mem_of_getElem? ‹d1[k]? = some _›); have := ho_.2.1; have := ho_.2.2.1; have := encOp_len (last := last) ho_; have := (batch_len (by omega : batchCheck d1 = 0)).2; omega) | (have ho_ := batchCheck_mem (by omega : batchCheck d1 = 0) (List.mem_of_getElem? ‹d1[k]? = some _›); have := ho_.2.1; have := ho_.2.2.1; have := (batch_len (by omega : batchCheck d1 = 0)).2; simp only [List.length_append, List.length_nil, List.length_cons, List.length_take, List.length_drop] at *; omega))) (fun v16 m16 hv16 => ?_)
        obtain ⟨s16_0, rfl, f16_0⟩ := hv16
        have hfa17 := venc_len (x := (shared last x7.2.1)) (by first | omega | exact or64 (by assumption) _)
        obtain ⟨A16_0, c16_0, eq16_0, l16_0, k16_0⟩ := f16_0.slice
        subst eq16_0
        simp only [maxLen] at k16_0
        refine VO.as ?_
        refine VO.k16 0 1 4 5 6 7 8 10 11 12 16 23 24 25 26 34 ?_
        refine VC.seq ?_
        refine VC.regD _ 12 [(0, true), (1, true), (2, true), (3, true), (4, true), (5, true), (6, true), (8, true), (9, true), (10, true), (11, true), (7, false)] follows (by kernel_rfl) (fun _ h => h.sub [116, 114, 109, 104, 0]) ?_
        refine VD.y rfl rfl (.inl rfl) (.mv rfl) ?_
        refine VD.y rfl rfl (.inl rfl) (.fa rfl tst40 rfl) ?_
        refine VD.y rfl rfl (.inl rfl) (.ld1 109 rfl tk9 rfl (cellsAt_one rfl rfl)) ?_
        refine VD.y rfl rfl (.inl rfl) (.lenT rfl Try.underlying9) ?_
        refine VD.y rfl rfl (.inl rfl) (.mv rfl) ?_
        refine VD.y rfl rfl (.inl rfl) (.sub rfl rfl rfl ⟨by first | omega | (have ho_ := batchCheck_mem (by omega : batchCheck d1 = 0) (List.mem_of_getElem? ‹d1[k]? = some _›); have := ho_.2.1; have := ho_.2.2.1; have := encOp_len (last := last) ho_; have := (batch_len (by omega : batchCheck d1 = 0)).2; omega) | (have ho_ := batchCheck_mem (by omega : batchCheck d1 = 0) (List.mem_of_getElem? ‹d1[k]? = some _›); have := ho_.2.1; have := ho_.2.2.1; have := (batch_len (by omega : batchCheck d1 = 0)).2; simp only [List.length_append, List.length_nil, List.length_cons, List.length_take, List.length_drop] at *; omega), by first | omega | (have ho_ := batchCheck_mem (by omega : batchCheck d1 = 0) (List.mem_of_getElem? ‹d1[k]? = some _›); have := ho_.2.1; have := ho_.2.2.1; have := encOp_len (last := last) ho_; have := (batch_len (by omega : batchCheck d1 = 0)).2; omega) | (have ho_ := batchCheck_mem (by omega : batchCheck d1 = 0) (List.mem_of_getElem? ‹d1[k]? = some _›); have := ho_.2.1; have := ho_.2.2.1; have := (batch_len (by omega : batchCheck d1 = 0)).2; simp only [List.length_append, List.length_nil, List.length_cons, List.length_take, List.length_drop] at *; omega)⟩) ?_
        refine VD.y rfl rfl (.inl rfl) (.cvI (c := ((((x7.2.1.length : Nat) : Int) - ((shared last x7.2.1 : Nat) : Int)).toNat : Int)) rfl ⟨_, Try.underlying3⟩ Try.underlying62 (by rw [IntWalk.u64_in _ (by first | omega | (have ho_ := batchCheck_mem (by omega : batchCheck d1 = 0) (List.mem_of_getElem? ‹d1[k]? = some _›); have := ho_.2.1; have := ho_.2.2.1; have := encOp_len (last := last) ho_; have := (batch_len (by omega : batchCheck d1 = 0)).2; omega) | (have ho_ := batchCheck_mem (by omega : batchCheck d1 = 0) (List.mem_of_getElem? ‹d1[k]? = some _›); have := ho_.2.1; have := ho_.2.2.1; have := (batch_len (by omega : batchCheck d1 = 0)).2; simp only [List.length_append, List.length_nil, List.length_cons, List.length_take, List.length_drop] at *; omega))]; first | omega | (first | omega | (have ho_ := batchCheck_mem (by omega : batchCheck d1 = 0) (List.mem_of_getElem? ‹d1[k]? = some _›); have := ho_.2.1; have := ho_.2.2.1; have := encOp_len (last := last) ho_; have := (batch_len (by omega : batchCheck d1 = 0)).2; omega) | (have ho_ := batchCheck_mem (by omega : batchCheck d1 = 0) (List.mem_of_getElem? ‹d1[k]? = some _›); have := ho_.2.1; have := ho_.2.2.1; have := (batch_len (by omega : batchCheck d1 = 0)).2; simp only [List.length_append, List.length_nil, List.length_cons, List.length_take, List.length_drop] at *; omega)))) ?_
        refine VD.y rfl rfl (.inl rfl) (.fa rfl tst40 rfl) ?_
        refine VD.y rfl rfl (.inl rfl) (.ld1 109 rfl tk9 rfl (cellsAt_one rfl rfl)) ?_
        refine VD.y rfl rfl (.inl rfl) (.mv rfl) ?_
        refine VD.y rfl rfl (.inl rfl) (.slTLI (shared last x7.2.1) rfl rfl Try.underlying9 rfl (by first | omega | (have ho_ := batchCheck_mem (by omega : batchCheck d1 = 0) (List.mem_of_getElem? ‹d1[k]? = some _›); have := ho_.2.1; have := ho_.2.2.1; have := encOp_len (last := last) ho_; have := (batch_len (by omega : batchCheck d1 = 0)).2; omega) | (have ho_ := batchCheck_mem (by omega : batchCheck d1 = 0) (List.mem_of_getElem? ‹d1[k]? = some _›); have := ho_.2.1; have := ho_.2.2.1; have := (batch_len (by omega : batchCheck d1 = 0)).2; simp only [List.length_append, List.length_nil, List.length_cons, List.length_take, List.length_drop] at *; omega))) ?_
        refine VD.callN 118 rfl rfl (.inl rfl) fnOk32 rfl (fun _ h => h.sub [116, 114, 109, 104, 0]) (fun W hW => vAppend_ok W (OwnL.rd (Ow.ownl f16_0 rfl mnil) (hW.at (i := 116) rfl) (mle_nil _)) ((((x7.2.1.length : Nat) : Int) - ((shared last x7.2.1 : Nat) : Int)).toNat) (by first | omega | (have ho_ := batchCheck_mem (by omega : batchCheck d1 = 0) (List.mem_of_getElem? ‹d1[k]? = some _›); have := ho_.2.1; have := ho_.2.2.1; have := encOp_len (last := last) ho_; have := (batch_len (by omega : batchCheck d1 = 0)).2; omega) | (have ho_ := batchCheck_mem (by omega : batchCheck d1 = 0) (List.mem_of_getElem? ‹d1[k]? = some _›); have := ho_.2.1; have := ho_.2.2.1; have := (batch_len (by omega : batchCheck d1 = 0)).2; simp only [List.length_append, List.length_nil, List.length_cons, List.length_take, List.length_drop] at *; omega)) (by first | omega | (have ho_ := batchCheck_mem (by omega : batchCheck d1 = 0) (List.mem_of_getElem? ‹d1[k]? = some _›); have := ho_.2.1; have := ho_.2.2.1; have := encOp_len (last := last) ho_; have := (batch_len (by omega : batchCheck d1 = 0)).2; omega) | (have ho_ := batchCheck_mem (by omega : batchCheck d1 = 0) (List.mem_of_getElem? ‹d1[k]? = some _›); have := ho_.2.1; have := ho_.2.2.1; have := (batch_len (by omega : batchCheck d1 = 0)).2; simp only [List.length_append, List.length_nil, List.length_cons, List.length_take, List.length_drop] at *; omega))) (fun v18 m18 hv18 => ?_)
        obtain ⟨s18_0, rfl, f18_0⟩ := hv18
        have hfa19 := venc_len (x := ((((x7.2.1.length : Nat) : Int) - ((shared last x7.2.1 : Nat) : Int)).toNat)) (by first | omega | exact or64 (by assumption) _)
        obtain ⟨A18_0, c18_0, eq18_0, l18_0, k18_0⟩ := f18_0.slice
        subst eq18_0
        simp only [maxLen] at k18_0
        refine VD.nil rfl ?_ rfl
        obtain ⟨mo20, cs20, hM20, hA20, hC20⟩ := (Ow.ownl f18_0 rfl mnil)
        refine VO.app 118 rfl rfl rfl tsl30 tz5 rfl rfl hM20 hA20 (.str _ Try.underlying9 rfl) (byV_nice _) (by simp only [maxLen]; (first | omega | (have ho_ := batchCheck_mem (by omega : batchCheck d1 = 0) (List.mem_of_getElem? ‹d1[k]? = some _›); have := ho_.2.1; have := ho_.2.2.1; have := encOp_len (last := last) ho_; have := (batch_len (by omega : batchCheck d1 = 0)).2; omega) | (have ho_ := batchCheck_mem (by omega : batchCheck d1 = 0) (List.mem_of_getElem? ‹d1[k]? = some _›); have := ho_.2.1; have := ho_.2.2.1; have := (batch_len (by omega : batchCheck d1 = 0)).2; simp only [List.length_append, List.length_nil, List.length_cons, List.length_take, List.length_drop] at *; omega))) (by first | omega | (have ho_ := batchCheck_mem (by omega : batchCheck d1 = 0) (List.mem_of_getElem? ‹d1[k]? = some _›); have := ho_.2.1; have := ho_.2.2.1; have := encOp_len (last := last) ho_; have := (batch_len (by omega : batchCheck d1 = 0)).2; omega) | (have ho_ := batchCheck_mem (by omega : batchCheck d1 = 0) (List.mem_of_getElem? ‹d1[k]? = some _›); have := ho_.2.1; have := ho_.2.2.1; have := (batch_len (by omega : batchCheck d1 = 0)).2; simp only [List.length_append, List.length_nil, List.length_cons, List.length_take, List.length_drop] at *; omega)) (by decide) (fun v20 m20 hN20 => ?_)
        have ho20 : OwnL .byte m20 mnil v20 ((((out ++ [UInt8.ofNat 1]) ++ venc (shared last x7.2.1)) ++ venc ((((x7.2.1.length : Nat) : Int) - ((shared last x7.2.1 : Nat) : Int)).toNat)) ++ (x7.2.1.drop (shared last x7.2.1))) := OwnL.more hC20 hN20 (rd_str _ _)
        obtain ⟨A20, c20, rfl, l20, k20⟩ := ho20.slice
        simp only [maxLen] at k20
        refine VO.as ?_
        refine VO.k16 0 1 4 5 6 7 8 10 11 12 16 23 24 25 26 34 ?_
        refine outN ?_
        refine VC.seq ?_
        refine VC.rs ?_
        refine VO.y rfl (.fa rfl tst40 rfl) ?_
        refine VO.y rfl (.ld1 109 rfl tk4 rfl (cellsAt_one rfl rfl)) ?_
        refine VO.keep [118, 109, 0] [(118, m20), (109, mone g8 (.cells [Value.bool x7.1, str (x7.2.1), str (x7.2.2)].toArray 40 (0, 0))), (0, wm W)] (by kernel_rfl) ?_
        refine VO.k17 0 1 4 5 6 7 8 10 11 12 16 23 24 25 26 34 56 ?_
        refine VC.condKT rfl hc12 ?_
        refine VC.regD _ 8 [(0, true), (1, true), (2, true), (3, true), (4, true), (6, true), (7, true), (5, false)] follows (by kernel_rfl) (fun _ h => h.sub [118, 109, 0]) ?_
        refine VD.y rfl rfl (.inl rfl) (.mv rfl) ?_
        refine VD.y rfl rfl (.inl rfl) (.fa rfl tst40 rfl) ?_
        refine VD.y rfl rfl (.inl rfl) (.ld1 109 rfl tk9 rfl (cellsAt_one rfl rfl)) ?_
        refine VD.y rfl rfl (.inl rfl) (.lenT rfl Try.underlying9) ?_
        refine VD.y rfl rfl (.inl rfl) (.cvI rfl ⟨_, Try.underlying3⟩ Try.underlying62 (IntWalk.u64_in _ (by first | omega | (have ho_ := batchCheck_mem (by omega : batchCheck d1 = 0) (List.mem_of_getElem? ‹d1[k]? = some _›); have := ho_.2.1; have := ho_.2.2.1; have := encOp_len (last := last) ho_; have := (batch_len (by omega : batchCheck d1 = 0)).2; omega) | (have ho_ := batchCheck_mem (by omega : batchCheck d1 = 0) (List.mem_of_getElem? ‹d1[k]? = some _›); have := ho_.2.1; have := ho_.2.2.1; have := (batch_len (by omega : batchCheck d1 = 0)).2; simp only [List.length_append, List.length_nil, List.length_cons, List.length_take, List.length_drop] at *; omega)))) ?_
        refine VD.y rfl rfl (.inl rfl) (.fa rfl tst40 rfl) ?_
        refine VD.y rfl rfl (.inl rfl) (.ld1 109 rfl tk9 rfl (cellsAt_one rfl rfl)) ?_
        refine VD.callN 121 rfl rfl (.inl rfl) fnOk32 rfl (fun _ h => h.sub [118, 109, 0]) (fun W hW => vAppend_ok W (OwnL.rd ho20 (hW.at (i := 118) rfl) (mle_nil _)) x7.2.2.length (by first | omega | (have ho_ := batchCheck_mem (by omega : batchCheck d1 = 0) (List.mem_of_getElem? ‹d1[k]? = some _›); have := ho_.2.1; have := ho_.2.2.1; have := encOp_len (last := last) ho_; have := (batch_len (by omega : batchCheck d1 = 0)).2; omega) | (have ho_ := batchCheck_mem (by omega : batchCheck d1 = 0) (List.mem_of_getElem? ‹d1[k]? = some _›); have := ho_.2.1; have := ho_.2.2.1; have := (batch_len (by omega : batchCheck d1 = 0)).2; simp only [List.length_append, List.length_nil, List.length_cons, List.length_take, List.length_drop] at *; omega)) (by first | omega | (have ho_ := batchCheck_mem (by omega : batchCheck d1 = 0) (List.mem_of_getElem? ‹d1[k]? = some _›); have := ho_.2.1; have := ho_.2.2.1; have := encOp_len (last := last) ho_; have := (batch_len (by omega : batchCheck d1 = 0)).2; omega) | (have ho_ := batchCheck_mem (by omega : batchCheck d1 = 0) (List.mem_of_getElem? ‹d1[k]? = some _›); have := ho_.2.1; have := ho_.2.2.1; have := (batch_len (by omega : batchCheck d1 = 0)).2; simp only [List.length_append, List.length_nil, List.length_cons, List.length_take, List.length_drop] at *; omega))) (fun v21 m21 hv21 => ?_)
        obtain ⟨s21_0, rfl, f21_0⟩ := hv21
        have hfa22 := venc_len (x := x7.2.2.length) (by first | omega | exact or64 (by assumption) _)
        obtain ⟨A21_0, c21_0, eq21_0, l21_0, k21_0⟩ := f21_0.slice
        subst eq21_0
        simp only [maxLen] at k21_0
        refine VD.nil rfl ?_ rfl
        obtain ⟨mo23, cs23, hM23, hA23, hC23⟩ := (Ow.ownl f21_0 rfl mnil)
        refine VO.app 121 rfl rfl rfl tsl30 tz5 rfl rfl hM23 hA23 (.str _ Try.underlying9 rfl) (byV_nice _) (by simp only [maxLen]; (first | omega | (have ho_ := batchCheck_mem (by omega : batchCheck d1 = 0) (List.mem_of_getElem? ‹d1[k]? = some _›); have := ho_.2.1; have := ho_.2.2.1; have := encOp_len (last := last) ho_; have := (batch_len (by omega : batchCheck d1 = 0)).2; omega) | (have ho_ := batchCheck_mem (by omega : batchCheck d1 = 0) (List.mem_of_getElem? ‹d1[k]? = some _›); have := ho_.2.1; have := ho_.2.2.1; have := (batch_len (by omega : batchCheck d1 = 0)).2; simp only [List.length_append, List.length_nil, List.length_cons, List.length_take, List.length_drop] at *; omega))) (by first | omega | (have ho_ := batchCheck_mem (by omega : batchCheck d1 = 0) (List.mem_of_getElem? ‹d1[k]? = some _›); have := ho_.2.1; have := ho_.2.2.1; have := encOp_len (last := last) ho_; have := (batch_len (by omega : batchCheck d1 = 0)).2; omega) | (have ho_ := batchCheck_mem (by omega : batchCheck d1 = 0) (List.mem_of_getElem? ‹d1[k]? = some _›); have := ho_.2.1; have := ho_.2.2.1; have := (batch_len (by omega : batchCheck d1 = 0)).2; simp only [List.length_append, List.length_nil, List.length_cons, List.length_take, List.length_drop] at *; omega)) (by decide) (fun v23 m23 hN23 => ?_)
        have ho23 : OwnL .byte m23 mnil v23 ((((((out ++ [UInt8.ofNat 1]) ++ venc (shared last x7.2.1)) ++ venc ((((x7.2.1.length : Nat) : Int) - ((shared last x7.2.1 : Nat) : Int)).toNat)) ++ (x7.2.1.drop (shared last x7.2.1))) ++ venc x7.2.2.length) ++ x7.2.2) := OwnL.more hC23 hN23 (rd_str _ _)
        obtain ⟨A23, c23, rfl, l23, k23⟩ := ho23.slice
        simp only [maxLen] at k23
        refine VO.as ?_
        refine VO.k17 0 1 4 5 6 7 8 10 11 12 16 23 24 25 26 34 56 ?_
        refine outN ?_
        refine VC.reg ?_
        refine VO.y rfl (.fa rfl tst40 rfl) ?_
        refine VO.y rfl (.ld1 109 rfl tk9 rfl (cellsAt_one rfl rfl)) ?_
        refine VO.as ?_
        refine VO.k17 0 1 4 5 6 7 8 10 11 12 16 23 24 25 26 34 56 ?_
        refine outBN ?_
        refine outN ?_
        refine VC.reg ?_
        refine VO.y rfl (.add (c := ((k + 1 : Nat) : Int)) rfl rfl (by omega) ⟨by first | omega | (have ho_ := batchCheck_mem (by omega : batchCheck d1 = 0) (List.mem_of_getElem? ‹d1[k]? = some _›); have := ho_.2.1; have := ho_.2.2.1; have := encOp_len (last := last) ho_; have := (batch_len (by omega : batchCheck d1 = 0)).2; omega) | (have ho_ := batchCheck_mem (by omega : batchCheck d1 = 0) (List.mem_of_getElem? ‹d1[k]? = some _›); have := ho_.2.1; have := ho_.2.2.1; have := (batch_len (by omega : batchCheck d1 = 0)).2; simp only [List.length_append, List.length_nil, List.length_cons, List.length_take, List.length_drop] at *; omega), by first | omega | (have ho_ := batchCheck_mem (by omega : batchCheck d1 = 0) (List.mem_of_getElem? ‹d1[k]? = some _›); have := ho_.2.1; have := ho_.2.2.1; have := encOp_len (last := last) ho_; have := (batch_len (by omega : batchCheck d1 = 0)).2; omega) | (have ho_ := batchCheck_mem (by omega : batchCheck d1 = 0) (List.mem_of_getElem? ‹d1[k]? = some _›); have := ho_.2.1; have := ho_.2.2.1; have := (batch_len (by omega : batchCheck d1 = 0)).2; simp only [List.length_append, List.length_nil, List.length_cons, List.length_take, List.length_drop] at *; omega)⟩) ?_
        refine VO.mv ?_
        refine VO.keep [121, 109, 0] [(121, m23), (109, mone g8 (.cells [Value.bool x7.1, str (x7.2.1), str (x7.2.2)].toArray 40 (0, 0))), (0, wm W)] (by kernel_rfl) ?_
        refine VO.k17 0 1 4 5 6 7 8 10 11 12 16 23 24 25 26 34 56 ?_
        exact outN ⟨⟨k + 1, x7.2.1, (((((out ++ [UInt8.ofNat 1]) ++ venc (shared last x7.2.1)) ++ venc ((((x7.2.1.length : Nat) : Int) - ((shared last x7.2.1 : Nat) : Int)).toNat)) ++ (x7.2.1.drop (shared last x7.2.1))) ++ venc x7.2.2.length) ++ x7.2.2, A23, c23, m23⟩, ⟨by omega, by exact enc_step2 he ‹d1[k]? = some _› (by first | (rw [enc_put (by assumption)]; simp only [List.append_assoc, List.cons_append, List.nil_append, List.singleton_append, Int.toNat_sub]; rfl) | (rw [enc_del (by assumption)]; simp only [List.append_assoc, List.cons_append, List.nil_append, List.singleton_append, Int.toNat_sub]; rfl)), by exact enc_len2 (last := last) hlo (by omega) ‹d1[k]? = some _› (by first | (rw [enc_put (by assumption)]; simp only [List.append_assoc, List.cons_append, List.nil_append, List.singleton_append, Int.toNat_sub]; rfl) | (rw [enc_del (by assumption)]; simp only [List.append_assoc, List.cons_append, List.nil_append, List.singleton_append, Int.toNat_sub]; rfl)), by (have ho_ := batchCheck_mem (by omega : batchCheck d1 = 0) (List.mem_of_getElem? ‹d1[k]? = some _›); have := ho_.2.1; have := ho_.2.2.1; have := encOp_len (last := last) ho_; have := (batch_len (by omega : batchCheck d1 = 0)).2; omega), ho23⟩, by first | omega | (have ho_ := batchCheck_mem (by omega : batchCheck d1 = 0) (List.mem_of_getElem? ‹d1[k]? = some _›); have := ho_.2.1; have := ho_.2.2.1; have := encOp_len (last := last) ho_; have := (batch_len (by omega : batchCheck d1 = 0)).2; omega) | (have ho_ := batchCheck_mem (by omega : batchCheck d1 = 0) (List.mem_of_getElem? ‹d1[k]? = some _›); have := ho_.2.1; have := ho_.2.2.1; have := (batch_len (by omega : batchCheck d1 = 0)).2; simp only [List.length_append, List.length_nil, List.length_cons, List.length_take, List.length_drop] at *; omega), ⟨⟨rfl, rfl, rfl, rfl, rfl, rfl, rfl, rfl, rfl, rfl, rfl, trivial⟩, fun _ h => Inv.sub (Inv.num h 121 104 rfl) [104, 0]⟩⟩
      · -- FTF
        refine VC.skip ?_
        refine outN ?_
        refine VC.rs ?_
        refine VO.mv ?_
        refine VO.mv ?_
        refine VO.bsl (cs := [Value.int .u8 (0)]) 125 rfl rfl tsl30 tz5 rfl rfl (fun g24 => ?_)
        obtain ⟨mo26, cs26, hM26, hA26, hC26⟩ := h_out
        refine VO.app 104 rfl rfl rfl tsl30 tz5 rfl rfl hM26 hA26 (.row 125 _ _ _ 1 1 _ _ Try.underlying30 rfl (cellsAt_one rfl rfl)) (by simp [Value.oneCell']) (by simp only [maxLen]; (first | omega | (have ho_ := batchCheck_mem (by omega : batchCheck d1 = 0) (List.mem_of_getElem? ‹d1[k]? = some _›); have := ho_.2.1; have := ho_.2.2.1; have := encOp_len (last := last) ho_; have := (batch_len (by omega : batchCheck d1 = 0)).2; omega) | (have ho_ := batchCheck_mem (by omega : batchCheck d1 = 0) (List.mem_of_getElem? ‹d1[k]? = some _›); have := ho_.2.1; have := ho_.2.2.1; have := (batch_len (by omega : batchCheck d1 = 0)).2; simp only [List.length_append, List.length_nil, List.length_cons, List.length_take, List.length_drop] at *; omega))) (by first | omega | (have ho_ := batchCheck_mem (by omega : batchCheck d1 = 0) (List.mem_of_getElem? ‹d1[k]? = some _›); have := ho_.2.1; have := ho_.2.2.1; have := encOp_len (last := last) ho_; have := (batch_len (by omega : batchCheck d1 = 0)).2; omega) | (have ho_ := batchCheck_mem (by omega : batchCheck d1 = 0) (List.mem_of_getElem? ‹d1[k]? = some _›); have := ho_.2.1; have := ho_.2.2.1; have := (batch_len (by omega : batchCheck d1 = 0)).2; simp only [List.length_append, List.length_nil, List.length_cons, List.length_take, List.length_drop] at *; omega)) (by decide) (fun v26 m26 hN26 => ?_)
        have ho26 : OwnL .byte m26 mnil v26 (out ++ [UInt8.ofNat 0]) := OwnL.one hC26 hN26 (rd_byteN (by first | omega | (have ho_ := batchCheck_mem (by omega : batchCheck d1 = 0) (List.mem_of_getElem? ‹d1[k]? = some _›); have := ho_.2.1; have := ho_.2.2.1; have := encOp_len (last := last) ho_; have := (batch_len (by omega : batchCheck d1 = 0)).2; omega) | (have ho_ := batchCheck_mem (by omega : batchCheck d1 = 0) (List.mem_of_getElem? ‹d1[k]? = some _›); have := ho_.2.1; have := ho_.2.2.1; have := (batch_len (by omega : batchCheck d1 = 0)).2; simp only [List.length_append, List.length_nil, List.length_cons, List.length_take, List.length_drop] at *; omega)))
        obtain ⟨A26, c26, rfl, l26, k26⟩ := ho26.slice
        simp only [maxLen] at k26
        refine VO.mv ?_
        refine VO.y rfl (.cvI rfl ⟨_, Try.underlying3⟩ Try.underlying62 (IntWalk.u64_in _ (by first | omega | (have ho_ := batchCheck_mem (by omega : batchCheck d1 = 0) (List.mem_of_getElem? ‹d1[k]? = some _›); have := ho_.2.1; have := ho_.2.2.1; have := encOp_len (last := last) ho_; have := (batch_len (by omega : batchCheck d1 = 0)).2; omega) | (have ho_ := batchCheck_mem (by omega : batchCheck d1 = 0) (List.mem_of_getElem? ‹d1[k]? = some _›); have := ho_.2.1; have := ho_.2.2.1; have := (batch_len (by omega : batchCheck d1 = 0)).2; simp only [List.length_append, List.length_nil, List.length_cons, List.length_take, List.length_drop] at *; omega)))) ?_
        refine VO.callN 127 rfl fnOk32 rfl (fun W hW => vAppend_ok W (OwnL.rd ho26 (hW.at (i := 104) rfl) (mle_nil _)) (shared last x7.2.1) (by first | omega | (have ho_ := batchCheck_mem (by omega : batchCheck d1 = 0) (List.mem_of_getElem? ‹d1[k]? = some _›); have := ho_.2.1; have := ho_.2.2.1; have := encOp_len (last := last) ho_; have := (batch_len (by omega : batchCheck d1 = 0)).2; omega) | (have ho_ := batchCheck_mem (by omega : batchCheck d1 = 0) (List.mem_of_getElem? ‹d1[k]? = some _›); have := ho_.2.1; have := ho_.2.2.1; have := (batch_len (by omega : batchCheck d1 = 0)).2; simp only [List.length_append, List.length_nil, List.length_cons, List.length_take, List.length_drop] at *; omega)) (by first | omega | (have ho_ := batchCheck_mem (by omega : batchCheck d1 = 0) (List.mem_of_getElem? ‹d1[k]? = some _›); have := ho_.2.1; have := ho_.2.2.1; have := encOp_len (last := last) ho_; have := (batch_len (by omega : batchCheck d1 = 0)).2; omega) | (have ho_ := batchCheck_mem (by omega : batchCheck d1 = 0) (List.mem_of_getElem? ‹d1[k]? = some _›); have := ho_.2.1; have := ho_.2.2.1; have := (batch_len (by omega : batchCheck d1 = 0)).2; simp only [List.length_append, List.length_nil, List.length_cons, List.length_take, List.length_drop] at *; omega))) (fun v27 m27 hv27 => ?_)
        obtain ⟨s27_0, rfl, f27_0⟩ := hv27
        have hfa28 := venc_len (x := (shared last x7.2.1)) (by first | omega | exact or64 (by assumption) _)
        obtain ⟨A27_0, c27_0, eq27_0, l27_0, k27_0⟩ := f27_0.slice
        subst eq27_0
        simp only [maxLen] at k27_0
        refine VO.as ?_
        refine VO.keep [127, 109, 0] [(127, m27), (109, mone g8 (.cells [Value.bool x7.1, str (x7.2.1), str (x7.2.2)].toArray 40 (0, 0))), (0, wm W)] (by kernel_rfl) ?_
        refine VO.k16 0 1 4 5 6 7 8 10 11 12 16 23 24 25 26 34 ?_
        refine VC.seq ?_
        refine VC.regD _ 12 [(0, true), (1, true), (2, true), (3, true), (4, true), (5, true), (6, true), (8, true), (9, true), (10, true), (11, true), (7, false)] follows (by kernel_rfl) (fun _ h => h.sub [127, 109, 0]) ?_
        refine VD.y rfl rfl (.inl rfl) (.mv rfl) ?_
        refine VD.y rfl rfl (.inl rfl) (.fa rfl tst40 rfl) ?_
        refine VD.y rfl rfl (.inl rfl) (.ld1 109 rfl tk9 rfl (cellsAt_one rfl rfl)) ?_
        refine VD.y rfl rfl (.inl rfl) (.lenT rfl Try.underlying9) ?_
        refine VD.y rfl rfl (.inl rfl) (.mv rfl) ?_
        refine VD.y rfl rfl (.inl rfl) (.sub rfl rfl rfl ⟨by first | omega | (have ho_ := batchCheck_mem (by omega : batchCheck d1 = 0) (List.mem_of_getElem? ‹d1[k]? = some _›); have := ho_.2.1; have := ho_.2.2.1; have := encOp_len (last := last) ho_; have := (batch_len (by omega : batchCheck d1 = 0)).2; omega) | (have ho_ := batchCheck_mem (by omega : batchCheck d1 = 0) (List.mem_of_getElem? ‹d1[k]? = some _›); have := ho_.2.1; have := ho_.2.2.1; have := (batch_len (by omega : batchCheck d1 = 0)).2; simp only [List.length_append, List.length_nil, List.length_cons, List.length_take, List.length_drop] at *; omega), by first | omega | (have ho_ := batchCheck_mem (by omega : batchCheck d1 = 0) (List.mem_of_getElem? ‹d1[k]? = some _›); have := ho_.2.1; have := ho_.2.2.1; have := encOp_len (last := last) ho_; have := (batch_len (by omega : batchCheck d1 = 0)).2; omega) | (have ho_ := batchCheck_mem (by omega : batchCheck d1 = 0) (List.mem_of_getElem? ‹d1[k]? = some _›); have := ho_.2.1; have := ho_.2.2.1; have := (batch_len (by omega : batchCheck d1 = 0)).2; simp only [List.length_append, List.length_nil, List.length_cons, List.length_take, List.length_drop] at *; omega)⟩) ?_
        refine VD.y rfl rfl (.inl rfl) (.cvI (c := ((((x7.2.1.length : Nat) : Int) - ((shared last x7.2.1 : Nat) : Int)).toNat : Int)) rfl ⟨_, Try.underlying3⟩ Try.underlying62 (by rw [IntWalk.u64_in _ (by first | omega | (have ho_ := batchCheck_mem (by omega : batchCheck d1 = 0) (List.mem_of_getElem? ‹d1[k]? = some _›); have := ho_.2.1; have := ho_.2.2.1; have := encOp_len (last := last) ho_; have := (batch_len (by omega : batchCheck d1 = 0)).2; omega) | (have ho_ := batchCheck_mem (by omega : batchCheck d1 = 0) (List.mem_of_getElem? ‹d1[k]? = some _›); have := ho_.2.1; have := ho_.2.2.1; have := (batch_len (by omega : batchCheck d1 = 0)).2; simp only [List.length_append, List.length_nil, List.length_cons, List.length_take, List.length_drop] at *; omega))]; first | omega | (first | omega | (have ho_ := batchCheck_mem (by omega : batchCheck d1 = 0) (List.mem_of_getElem? ‹d1[k]? = some _›); have := ho_.2.1; have := ho_.2.2.1; have := encOp_len (last := last) ho_; have := (batch_len (by omega : batchCheck d1 = 0)).2; omega) | (have ho_ := batchCheck_mem (by omega : batchCheck d1 = 0) (List.mem_of_getElem? ‹d1[k]? = some _›); have := ho_.2.1; have := ho_.2.2.1; have := (batch_len (by omega : batchCheck d1 = 0)).2; simp only [List.length_append, List.length_nil, List.length_cons, List.length_take, List.length_drop] at *; omega)))) ?_
        refine VD.y rfl rfl (.inl rfl) (.fa rfl tst40 rfl) ?_
        refine VD.y rfl rfl (.inl rfl) (.ld1 109 rfl tk9 rfl (cellsAt_one rfl rfl)) ?_
        refine VD.y rfl rfl (.inl rfl) (.mv rfl) ?_
        refine VD.y rfl rfl (.inl rfl) (.slTLI (shared last x7.2.1) rfl rfl Try.underlying9 rfl (by first | omega | (have ho_ := batchCheck_mem (by omega : batchCheck d1 = 0) (List.mem_of_getElem? ‹d1[k]? = some _›); have := ho_.2.1; have := ho_.2.2.1; have := encOp_len (last := last) ho_; have := (batch_len (by omega : batchCheck d1 = 0)).2; omega) | (have ho_ := batchCheck_mem (by omega : batchCheck d1 = 0) (List.mem_of_getElem? ‹d1[k]? = some _›); have := ho_.2.1; have := ho_.2.2.1; have := (batch_len (by omega : batchCheck d1 = 0)).2; simp only [List.length_append, List.length_nil, List.length_cons, List.length_take, List.length_drop] at *; omega))) ?_
        refine VD.callN 129 rfl rfl (.inl rfl) fnOk32 rfl (fun _ h => h.sub [127, 109, 0]) (fun W hW => vAppend_ok W (OwnL.rd (Ow.ownl f27_0 rfl mnil) (hW.at (i := 127) rfl) (mle_nil _)) ((((x7.2.1.length : Nat) : Int) - ((shared last x7.2.1 : Nat) : Int)).toNat) (by first | omega | (have ho_ := batchCheck_mem (by omega : batchCheck d1 = 0) (List.mem_of_getElem? ‹d1[k]? = some _›); have := ho_.2.1; have := ho_.2.2.1; have := encOp_len (last := last) ho_; have := (batch_len (by omega : batchCheck d1 = 0)).2; omega) | (have ho_ := batchCheck_mem (by omega : batchCheck d1 = 0) (List.mem_of_getElem? ‹d1[k]? = some _›); have := ho_.2.1; have := ho_.2.2.1; have := (batch_len (by omega : batchCheck d1 = 0)).2; simp only [List.length_append, List.length_nil, List.length_cons, List.length_take, List.length_drop] at *; omega)) (by first | omega | (have ho_ := batchCheck_mem (by omega : batchCheck d1 = 0) (List.mem_of_getElem? ‹d1[k]? = some _›); have := ho_.2.1; have := ho_.2.2.1; have := encOp_len (last := last) ho_; have := (batch_len (by omega : batchCheck d1 = 0)).2; omega) | (have ho_ := batchCheck_mem (by omega : batchCheck d1 = 0) (List.mem_of_getElem? ‹d1[k]? = some _›); have := ho_.2.1; have := ho_.2.2.1; have := (batch_len (by omega : batchCheck d1 = 0)).2; simp only [List.length_append, List.length_nil, List.length_cons, List.length_take, List.length_drop] at *; omega))) (fun v29 m29 hv29 => ?_)
        obtain ⟨s29_0, rfl, f29_0⟩ := hv29
        have hfa30 := venc_len (x := ((((x7.2.1.length : Nat) : Int) - ((shared last x7.2.1 : Nat) : Int)).toNat)) (by first | omega | exact or64 (by assumption) _)
        obtain ⟨A29_0, c29_0, eq29_0, l29_0, k29_0⟩ := f29_0.slice
        subst eq29_0
        simp only [maxLen] at k29_0
        refine VD.nil rfl ?_ rfl
        obtain ⟨mo31, cs31, hM31, hA31, hC31⟩ := (Ow.ownl f29_0 rfl mnil)
        refine VO.app 129 rfl rfl rfl tsl30 tz5 rfl rfl hM31 hA31 (.str _ Try.underlying9 rfl) (byV_nice _) (by simp only [maxLen]; (first | omega | (have ho_ := batchCheck_mem (by omega : batchCheck d1 = 0) (List.mem_of_getElem? ‹d1[k]? = some _›); have := ho_.2.1; have := ho_.2.2.1; have := encOp_len (last := last) ho_; have := (batch_len (by omega : batchCheck d1 = 0)).2; omega) | (have ho_ := batchCheck_mem (by omega : batchCheck d1 = 0) (List.mem_of_getElem? ‹d1[k]? = some _›); have := ho_.2.1; have := ho_.2.2.1; have := (batch_len (by omega : batchCheck d1 = 0)).2; simp only [List.length_append, List.length_nil, List.length_cons, List.length_take, List.length_drop] at *; omega))) (by first | omega | (have ho_ := batchCheck_mem (by omega : batchCheck d1 = 0) (List.mem_of_getElem? ‹d1[k]? = some _›); have := ho_.2.1; have := ho_.2.2.1; have := encOp_len (last := last) ho_; have := (batch_len (by omega : batchCheck d1 = 0)).2; omega) | (have ho_ := batchCheck_mem (by omega : batchCheck d1 = 0) (List.mem_of_getElem? ‹d1[k]? = some _›); have := ho_.2.1; have := ho_.2.2.1; have := (batch_len (by omega : batchCheck d1 = 0)).2; simp only [List.length_append, List.length_nil, List.length_cons, List.length_take, List.length_drop] at *; omega)) (by decide) (fun v31 m31 hN31 => ?_)
        have ho31 : OwnL .byte m31 mnil v31 ((((out ++ [UInt8.ofNat 0]) ++ venc (shared last x7.2.1)) ++ venc ((((x7.2.1.length : Nat) : Int) - ((shared last x7.2.1 : Nat) : Int)).toNat)) ++ (x7.2.1.drop (shared last x7.2.1))) := OwnL.more hC31 hN31 (rd_str _ _)
        obtain ⟨A31, c31, rfl, l31, k31⟩ := ho31.slice
        simp only [maxLen] at k31
        refine VO.as ?_
        refine VO.k16 0 1 4 5 6 7 8 10 11 12 16 23 24 25 26 34 ?_
        refine outN ?_
        refine VC.seq ?_
        refine VC.rs ?_
        refine VO.y rfl (.fa rfl tst40 rfl) ?_
        refine VO.y rfl (.ld1 109 rfl tk4 rfl (cellsAt_one rfl rfl)) ?_
        refine VO.k17 0 1 4 5 6 7 8 10 11 12 16 23 24 25 26 34 56 ?_
        refine VC.condKF rfl hc12 ?_
        refine VC.skip ?_
        refine outN ?_
        refine VC.reg ?_
        refine VO.y rfl (.fa rfl tst40 rfl) ?_
        refine VO.y rfl (.ld1 109 rfl tk9 rfl (cellsAt_one rfl rfl)) ?_
        refine VO.as ?_
        refine VO.keep [129, 109, 0] [(129, m31), (109, mone g8 (.cells [Value.bool x7.1, str (x7.2.1), str (x7.2.2)].toArray 40 (0, 0))), (0, wm W)] (by kernel_rfl) ?_
        refine VO.k17 0 1 4 5 6 7 8 10 11 12 16 23 24 25 26 34 56 ?_
        refine outBN ?_
        refine outN ?_
        refine VC.reg ?_
        refine VO.y rfl (.add (c := ((k + 1 : Nat) : Int)) rfl rfl (by omega) ⟨by first | omega | (have ho_ := batchCheck_mem (by omega : batchCheck d1 = 0) (List.mem_of_getElem? ‹d1[k]? = some _›); have := ho_.2.1; have := ho_.2.2.1; have := encOp_len (last := last) ho_; have := (batch_len (by omega : batchCheck d1 = 0)).2; omega) | (have ho_ := batchCheck_mem (by omega : batchCheck d1 = 0) (List.mem_of_getElem? ‹d1[k]? = some _›); have := ho_.2.1; have := ho_.2.2.1; have := (batch_len (by omega : batchCheck d1 = 0)).2; simp only [List.length_append, List.length_nil, List.length_cons, List.length_take, List.length_drop] at *; omega), by first | omega | (have ho_ := batchCheck_mem (by omega : batchCheck d1 = 0) (List.mem_of_getElem? ‹d1[k]? = some _›); have := ho_.2.1; have := ho_.2.2.1; have := encOp_len (last := last) ho_; have := (batch_len (by omega : batchCheck d1 = 0)).2; omega) | (have ho_ := batchCheck_mem (by omega : batchCheck d1 = 0) (List.mem_of_getElem? ‹d1[k]? = some _›); have := ho_.2.1; have := ho_.2.2.1; have := (batch_len (by omega : batchCheck d1 = 0)).2; simp only [List.length_append, List.length_nil, List.length_cons, List.length_take, List.length_drop] at *; omega)⟩) ?_
        refine VO.mv ?_
        refine VO.k17 0 1 4 5 6 7 8 10 11 12 16 23 24 25 26 34 56 ?_
        exact outN ⟨⟨k + 1, x7.2.1, (((out ++ [UInt8.ofNat 0]) ++ venc (shared last x7.2.1)) ++ venc ((((x7.2.1.length : Nat) : Int) - ((shared last x7.2.1 : Nat) : Int)).toNat)) ++ (x7.2.1.drop (shared last x7.2.1)), A31, c31, m31⟩, ⟨by omega, by exact enc_step2 he ‹d1[k]? = some _› (by first | (rw [enc_put (by assumption)]; simp only [List.append_assoc, List.cons_append, List.nil_append, List.singleton_append, Int.toNat_sub]; rfl) | (rw [enc_del (by assumption)]; simp only [List.append_assoc, List.cons_append, List.nil_append, List.singleton_append, Int.toNat_sub]; rfl)), by exact enc_len2 (last := last) hlo (by omega) ‹d1[k]? = some _› (by first | (rw [enc_put (by assumption)]; simp only [List.append_assoc, List.cons_append, List.nil_append, List.singleton_append, Int.toNat_sub]; rfl) | (rw [enc_del (by assumption)]; simp only [List.append_assoc, List.cons_append, List.nil_append, List.singleton_append, Int.toNat_sub]; rfl)), by (have ho_ := batchCheck_mem (by omega : batchCheck d1 = 0) (List.mem_of_getElem? ‹d1[k]? = some _›); have := ho_.2.1; have := ho_.2.2.1; have := encOp_len (last := last) ho_; have := (batch_len (by omega : batchCheck d1 = 0)).2; omega), ho31⟩, by first | omega | (have ho_ := batchCheck_mem (by omega : batchCheck d1 = 0) (List.mem_of_getElem? ‹d1[k]? = some _›); have := ho_.2.1; have := ho_.2.2.1; have := encOp_len (last := last) ho_; have := (batch_len (by omega : batchCheck d1 = 0)).2; omega) | (have ho_ := batchCheck_mem (by omega : batchCheck d1 = 0) (List.mem_of_getElem? ‹d1[k]? = some _›); have := ho_.2.1; have := ho_.2.2.1; have := (batch_len (by omega : batchCheck d1 = 0)).2; simp only [List.length_append, List.length_nil, List.length_cons, List.length_take, List.length_drop] at *; omega), ⟨⟨rfl, rfl, rfl, rfl, rfl, rfl, rfl, rfl, rfl, rfl, rfl, trivial⟩, fun _ h => Inv.sub (Inv.num h 129 104 rfl) [104, 0]⟩⟩
    · -- FF
      refine VC.exit ?_
      refine outE ?_
      refine outE ?_
      refine outBB ?_
      refine outN ?_
      refine VC.rs ?_
      refine VO.mv ?_
      refine VO.as ?_
      refine VO.as ?_
      refine VO.k12 0 1 4 5 6 7 8 16 23 24 25 26 ?_
      refine VC.ret ?_
      refine ⟨_, _, res_run (rs := [.tmp 4, .tmp 5]) rfl (.tmp rfl (.tmp rfl .nil)), fun W_ hI => out_of (l := [out_m]) hI [104] rfl rfl (mle_refl _) (fun hS_ => ?_)⟩
      dsimp only [packV]
      have he0 : ((bAppend d0 d1).1 : Ty.Den (.sl .byte)) = out := by first | rfl | (first | (rw [bAppend_bad ‹_›] <;> rfl) | (rw [bAppend_good (by omega)]; dsimp only; rw [← he, List.drop_of_length_le (by omega)]; simp [encOps]))
      refine ⟨Value.slice out_A (out.length) (out_c), ?_, ?_⟩
      rotate_left
      · rw [he0]; exact (Ow.up (OwnL.ow h_out rfl) (hS_.1 _ (.head _)))
      all_goals (first | rfl | (first | (rw [bAppend_bad ‹_›] <;> rfl) | (rw [bAppend_good (by omega)] <;> rfl)))
end
section
set_option linter.unusedVariables false
theorem bRead_keys (B : Bytes) : ∀ o ∈ (bRead B).1, o.2.1.length ≤ 16 := by
  rcases bRead_cases B with h0 | h0
  · generalize hp : bRead B = p at *
    obtain ⟨m, n, f⟩ := p
    dsimp only at h0
    subst h0
    exact fun o ho => (batchCheck_mem (bRead_back hp).1 ho).2.1
  · rw [h0]; exact fun o ho => (by cases ho)
end
section
set_option linter.unusedVariables false
set_option linter.unusedSimpArgs false
set_option maxRecDepth 4000
theorem tsl38 : tsl Try.prog 38 = some (30, 1, 24) := by kernel_rfl
theorem tz30 : tz Try.prog 30 = some [.slice none 0 0] := by kernel_rfl
end
section
set_option linter.unusedVariables false
def zC : DCommit := (0, 0, [])
def cEnc (c : DCommit) : Bytes := venc c.1.toNat ++ (venc c.2.1.toNat ++ batchEnc c.2.2)
def cEncode (c : DCommit) : Bytes × Int := if cCheck c = 0 then (cEnc c, 0) else ([], cCheck c)
def cPart (B : Bytes) : DCommit := ((sX B 1048576 : Int), (sX (B.drop (sN B 1048576)) 1048576 : Int), (bRead (B.drop (sN B 1048576 + sN (B.drop (sN B 1048576)) 1048576))).1)
def cDecode (B : Bytes) : DCommit × Int :=
  if sE B 1048576 = 0 ∧ sE (B.drop (sN B 1048576)) 1048576 = 0 ∧ (bRead (B.drop (sN B 1048576 + sN (B.drop (sN B 1048576)) 1048576))).2.2 = 0 ∧
    ((sN B 1048576 : Int) + (sN (B.drop (sN B 1048576)) 1048576 : Int) + (bRead (B.drop (sN B 1048576 + sN (B.drop (sN B 1048576)) 1048576))).2.1 = B.length) ∧ cCheck (cPart B) = 0 then (cPart B, 0) else (zC, 5)
theorem cCheck_zero {c : DCommit} (h : cCheck c = 0) : 1 ≤ c.1 ∧ c.1 ≤ 1048576 ∧ 1 ≤ c.2.1 ∧ c.2.1 ≤ 1048576 ∧ batchCheck c.2.2 = 0 := by
  unfold cCheck at h
  split at h
  · split at h
    · exact ⟨by omega, by omega, by omega, by omega, h⟩
    · cases h
  · cases h
theorem cEncode_bad {c : DCommit} (h : ¬ cCheck c = 0) : cEncode c = ([], cCheck c) := if_neg h
theorem cEncode_good {c : DCommit} (h : ¬ ¬ cCheck c = 0) : cEncode c = bAppend (venc c.1.toNat ++ venc c.2.1.toNat) c.2.2 := by
  have h' := Decidable.not_not.1 h
  unfold cEncode bAppend cEnc
  rw [if_pos h', if_pos (cCheck_zero h').2.2.2.2, List.append_assoc]
theorem cEncode_len (c : DCommit) : (cEncode c).1.length ≤ 700 := by
  by_cases h : cCheck c = 0
  · obtain ⟨h1, h2, h3, h4, h5⟩ := cCheck_zero h
    rw [cEncode_good (fun hn => hn h)]
    have := bAppend_len (venc c.1.toNat ++ venc c.2.1.toNat) c.2.2
    have := venc_len (x := c.1.toNat) (by omega)
    have := venc_len (x := c.2.1.toNat) (by omega)
    simp only [List.length_append] at *; omega
  · rw [cEncode_bad h]; simp
theorem cDecode_fits (B : Bytes) : (cDecode B).1.2.2.length ≤ 8 ∧ ∀ o ∈ (cDecode B).1.2.2, o.2.1.length ≤ 16 := by
  unfold cDecode
  split
  · exact ⟨(bRead_fits _).1, bRead_keys _⟩
  · exact ⟨by decide, fun o h => by cases h⟩
theorem cDecode_e1 {B : Bytes} (h : ¬ sE B 1048576 = 0) : cDecode B = (zC, 5) := if_neg fun hh => h hh.1
theorem cDecode_e2 {B : Bytes} (h : ¬ sE (B.drop (sN B 1048576)) 1048576 = 0) : cDecode B = (zC, 5) := if_neg fun hh => h hh.2.1
theorem cDecode_e3 {B : Bytes} (h : ¬ (bRead (B.drop (sN B 1048576 + sN (B.drop (sN B 1048576)) 1048576))).2.2 = 0) : cDecode B = (zC, 5) := if_neg fun hh => h hh.2.2.1
theorem cDecode_e4 {B : Bytes} (h : ¬ ((sN B 1048576 : Int) + (sN (B.drop (sN B 1048576)) 1048576 : Int) + (bRead (B.drop (sN B 1048576 + sN (B.drop (sN B 1048576)) 1048576))).2.1 = B.length)) : cDecode B = (zC, 5) := if_neg fun hh => h hh.2.2.2.1
theorem cDecode_e5 {B : Bytes} (h : ¬ cCheck (cPart B) = 0) : cDecode B = (zC, 5) := if_neg fun hh => h hh.2.2.2.2
theorem cDecode_ok {B : Bytes} (h1 : ¬ ¬ sE B 1048576 = 0) (h2 : ¬ ¬ sE (B.drop (sN B 1048576)) 1048576 = 0) (h3 : ¬ ¬ (bRead (B.drop (sN B 1048576 + sN (B.drop (sN B 1048576)) 1048576))).2.2 = 0)
    (h4 : ¬ ¬ ((sN B 1048576 : Int) + (sN (B.drop (sN B 1048576)) 1048576 : Int) + (bRead (B.drop (sN B 1048576 + sN (B.drop (sN B 1048576)) 1048576))).2.1 = B.length)) (h5 : ¬ ¬ cCheck (cPart B) = 0) : cDecode B = (cPart B, 0) :=
  if_pos ⟨Decidable.not_not.1 h1, Decidable.not_not.1 h2, Decidable.not_not.1 h3, Decidable.not_not.1 h4, Decidable.not_not.1 h5⟩
end
section
set_option linter.unusedVariables false
theorem Rd.relen {e : Ty} {m : Mem} {A : Option Addr} {l k c : Nat} {xs : List e.Den} (h : Rd (.sl e) m [.slice A l c] xs) (hk : k = xs.length) : Rd (.sl e) m [.slice A k c] xs := by
  obtain ⟨A', c', h1, h2⟩ := h
  simp only [List.cons.injEq, Value.slice.injEq, and_true] at h1
  obtain ⟨rfl, _, rfl⟩ := h1
  exact ⟨_, _, by rw [hk], h2⟩
theorem OwAll.map {α β : Type} {R : Mem → List Value → α → Prop} {S : Mem → List Value → β → Prop} (f : α → β) (hf : ∀ m c x, R m c x → S m c (f x)) : ∀ {xs : List α} {m : Mem} {cs : List Value}, OwAll R m cs xs → OwAll S m cs (xs.map f)
  | [], _, _, h => h
  | _ :: _, _, _, ⟨c1, c2, m1, m2, h1, h2, h3, h4, h5, h6⟩ => ⟨c1, c2, m1, m2, h1, h2, h3, h4, hf _ _ _ h5, h6.map f hf⟩
theorem VO.apart {P : Program} {n : Nat} {w0 : World} {σ : Env} {Ω : Ctx} {ops : Array Oper} {K : Env → Ctx → Prop} {r : List Oper} (ids : List Nat) {l : List Mem} (hg : cgets Ω ids = some l) (h : l.Pairwise mdj → VO P n w0 ops r σ Ω K) : VO P n w0 ops r σ Ω K :=
  fun Q hQ a W he hi => h (hi.gets hg).1 Q hQ a W he hi
theorem VD.apart {P : Program} {n : Nat} {w0 : World} {σ : Env} {Ω ΩS : Ctx} {ops : Array Oper} {K : Env → Ctx → Prop} {t : Nat} {ss : List (Nat × Bool)} (ids : List Nat) {l : List Mem} (hg : cgets Ω ids = some l) (h : l.Pairwise mdj → VD P n w0 ops ΩS t ss σ Ω K) : VD P n w0 ops ΩS t ss σ Ω K :=
  fun Q hn hQ listed a W he hi => h (hi.gets hg).1 Q hn hQ listed a W he hi
section
variable {P : Program} {n : Nat} {w0 : World} {σ : Env} {Ω : Ctx} {ops : Array Oper} {K : Env → Ctx → Prop}
theorem execOp_val {ρ : Operand → Value} {dst : Option Tmp} {x : Operand} {f : FuncId} {caps : Array Value} {xs : Array Operand} {ats : Array TypeId} {ty : TypeId} {pos : String} {after : Array Edge} {guard : Option (Nat × Bool)} (hx : ρ x = .func (.func f) #[] caps) :
    execOp ρ { dst, op := .call { callee := .value x, args := xs, argTypes := ats }, type := ty, pos, after, guard } = callFunc f (#[] ++ xs.map ρ ++ caps) := by
  show (do let d ← Deferred.ofValue (ρ x) (xs.map ρ); invoke d.target d.args) = _
  rw [hx]; rfl
theorem Yld.mkf {d : Nat} {f : FuncId} {xs : List Operand} {caps : List Value} {ty : TypeId} {pos : String} {af : Array Edge} {gd : Option (Nat × Bool)} (ha : evs σ xs = some caps) : Yld P n w0 σ Ω ⟨some d, .makeFunc (.func f) #[] xs.toArray, ty, pos, af, gd⟩ (.func (.func f) #[] caps.toArray) := fun a W he _ => by
  simp [execOp, Instr.makeFunc, he.evals ha]
theorem Stp.callV {x : Operand} {f : FuncId} {caps : List Value} {xs : List Operand} {ats : Array TypeId} {ty : TypeId} {pos : String} {af : Array Edge} {dst : Option Tmp} {gd : Option (Nat × Bool)} {vs : List Value} {Post : Value → Mem → Prop}
    (i : Nat) {m : Mem} (hx : ev σ x = some (.func (.func f) #[] caps.toArray)) (hf : fnOk P f = true) (ha : evs σ xs = some vs) (hm : cget Ω i = some m) (hc : ∀ W, Inv w0 Ω W → CallR P f (vs ++ caps) W m Post) :
    Stp P n w0 σ Ω ⟨dst, .call { callee := .value x, args := xs.toArray, argTypes := ats }, ty, pos, af, gd⟩ (fun v Ω' => ∃ m', Post v m' ∧ Ω' = cset Ω i m') := fun a W he hi K Q hK => by
  unfold Oper.wp
  rw [execOp_val (he.eval hx)]
  rw [run_call_of_ok hf]
  have : #[] ++ Array.map a.eval xs.toArray ++ caps.toArray = (vs ++ caps).toArray := by
    rw [← he.evals ha]; simp
  rw [this, Oper.upon_enter]
  refine Calls.mono (hc W hi) fun e W' ⟨v, m', h1, h2, h3⟩ => ?_
  subst h1
  exact hK v _ W' ⟨m', h2, rfl⟩ (hi.upd hm h3)
theorem VO.callV {r : List Oper} {d : Nat} {x : Operand} {f : FuncId} {caps : List Value} {xs : List Operand} {ats : Array TypeId} {ty : TypeId} {pos : String} {af : Array Edge} {vs : List Value} {Post : Value → Mem → Prop}
    (i : Nat) {m : Mem} (hd : Nat.blt d n = true) (hx : ev σ x = some (.func (.func f) #[] caps.toArray)) (hf : fnOk P f = true) (ha : evs σ xs = some vs) (hm : cget Ω i = some m) (hc : ∀ W, Inv w0 Ω W → CallR P f (vs ++ caps) W m Post)
    (h : ∀ v m', Post v m' → VO P n w0 ops r ((d, v) :: σ) (cset Ω i m') K) :
    VO P n w0 ops (⟨some d, .call { callee := .value x, args := xs.toArray, argTypes := ats }, ty, pos, af, none⟩ :: r) σ Ω K :=
  VO.s hd (Stp.callV i hx hf ha hm hc) fun v _ ⟨m', hp, hΩ⟩ => hΩ ▸ h v m' hp
end
theorem VD.gbsl {P : Program} {n : Nat} {w0 : World} {σ : Env} {Ω ΩS : Ctx} {ops : Array Oper} {t : Nat} {K : Env → Ctx → Prop} {ty : TypeId} {pos : String} {af : Array Edge} {i : Nat} {rr : List (Nat × Bool)} {dd : Nat} {t' e : TypeId} {s b len : Nat} {l : List (Nat × Operand)} {ps : List (Nat × Value)} {z cs : List Value} {jj : Nat} {b' : Bool} (j : Nat) (hd : Nat.blt dd n = true) (ho : ops[i]? = some ⟨some dd, .buildSlice t' len l.toArray, ty, pos, af, some (jj, b')⟩) (hg : gyes σ ops jj b')
    (hl : evp σ l = some ps) (ht : tsl P t' = some (e, s, b)) (hz : tz P e = some z)
    (hsmall : Nat.ble (len * s) 16777216 = true) (hb : bld (fun i => some (i * s, s)) ((List.range (len * s)).map fun j => z.toArray[j % z.toArray.size]!) ps = some cs) (hS : ∀ W, Inv w0 Ω W → Inv w0 ΩS W)
    (h : ∀ g, VD P n w0 ops ΩS t rr ((dd, .slice (some ⟨g, 0, none⟩) len len) :: σ) ((j, mone g (.cells cs.toArray e (0, 0))) :: Ω) K) : VD P n w0 ops ΩS t ((i, false) :: rr) σ Ω K :=
  VD.s (fun v => (dd, v) :: σ) ho (fun v _ he => he.put hd v) (.inr ⟨_, _, rfl, hg⟩) (Stp.bsl j hl ht hz hsmall hb) (fun _ _ ⟨_, _, hΩ⟩ W hW => hS W (by subst hΩ; exact hW.tl)) (fun _ _ ⟨g, hv, hΩ⟩ => hv ▸ hΩ ▸ h g)
abbrev Hd := Option Addr × Nat × Nat
def hv (h : Hd) : Value := .slice h.1 h.2.1 h.2.2
/-- two numbers and a list; two numbers and a list's header. -/
abbrev tC (e : Ty) : Ty := .pair (.int .i64) (.pair (.int .i64) (.sl e))
abbrev DH := Int × Int × Hd
/-- this one, but for where the ops are. -/
def Pc (e : Ty) (m : Mem) (h : DH) (x : (tC e).Den) : Prop := h.1 = x.1 ∧ h.2.1 = x.2.1 ∧ Rd (.sl e) m [hv h.2.2] x.2.2
inductive F2 {α β : Type} (R : α → β → Prop) : List α → List β → Prop
  | nil : F2 R [] []
  | cons {a : α} {b : β} {l : List α} {r : List β} (h : R a b) (t : F2 R l r) : F2 R (a :: l) (b :: r)
theorem F2.mono {α β : Type} {R S : α → β → Prop} {l : List α} {r : List β} (h : F2 R l r) (hs : ∀ a b, R a b → S a b) : F2 S l r := by
  induction h with
  | nil => exact .nil
  | cons h _ ih => exact .cons (hs _ _ h) ih
theorem F2.len {α β : Type} {R : α → β → Prop} {l : List α} {r : List β} (h : F2 R l r) : l.length = r.length := by
  induction h with
  | nil => rfl
  | cons _ _ ih => simp [ih]
theorem F2.get {α β : Type} {R : α → β → Prop} {l : List α} {r : List β} (h : F2 R l r) {i : Nat} {a : α} (ha : l[i]? = some a) : ∃ b, r[i]? = some b ∧ R a b := by
  induction h generalizing i with
  | nil => simp at ha
  | cons h _ ih =>
    cases i with
    | zero => simp at ha; subst ha; exact ⟨_, rfl, h⟩
    | succ i => simp at ha; simpa using ih ha
variable {e : Ty}
theorem Pc.mono {m m' : Mem} {h : DH} {x : (tC e).Den} (hp : Pc e m h x) (hm : mle m m') : Pc e m' h x := ⟨hp.1, hp.2.1, hp.2.2.mono hm⟩
theorem OwAll.len {α : Type} {R : Mem → List Value → α → Prop} {k : Nat} (hk : ∀ m c x, R m c x → c.length = k) : ∀ {xs : List α} {m : Mem} {cs : List Value}, OwAll R m cs xs → cs.length = xs.length * k
  | [], _, _, h => by rw [show _ = [] from h]; simp
  | _ :: r, _, _, ⟨c1, c2, m1, m2, h1, _, _, _, h5, h6⟩ => by
    rw [h1, List.length_append, hk _ _ _ h5, OwAll.len hk h6, List.length_cons, Nat.add_mul]; omega
end
section
set_option linter.unusedVariables false
set_option linter.unusedSimpArgs false
set_option maxRecDepth 4000
theorem fnOk64 : fnOk Try.prog 64 = true := by kernel_rfl
theorem fnOk97 : fnOk Try.prog 97 = true := by kernel_rfl
theorem cEncode_ok_ (W : World) {v0 : List Value} {d0 : DCommit} (h0 : Rd TCommit (wm W) v0 d0) : CallR Try.prog 33 [.agg v0.toArray] W (mnil) (fun v m' => ∃ (s0 : Value), v = .tuple #[s0, .int .i64 ((cEncode d0).2)] ∧ Ow (.sl .byte) m' [s0] ((cEncode d0).1)) := by
  obtain ⟨p0_A2, p0_c2, rfl, p0_0, p0_1, p0_2⟩ := open_Commit (x0 := d0.1) (x1 := d0.2.1) (x2 := d0.2.2) h0
  simp only [inK] at p0_0
  simp only [inK] at p0_1
  have p0_r2 := Rd.room p0_2
  refine CallR.ofA (n := 23) Try.func33 rfl rfl rfl ?_
  refine VC.rs ?_
  refine VO.box (cs := [Value.int .i64 (d0.1), Value.int .i64 (d0.2.1), Value.slice p0_A2 (d0.2.2.length) (p0_c2)]) 102 rfl rfl rfl (fun g1 => ?_)
  refine VO.as ?_
  refine VO.as ?_
  refine VO.k4 0 1 2 3 ?_
  refine VC.seq ?_
  refine VC.rs ?_
  refine VO.y rfl (.ldA 102 rfl tk43 rfl (cellsAt_one rfl rfl)) ?_
  refine VO.callN 103 rfl fnOk63 rfl (fun W hW => cCheck_ok_ W (Rd.mono h0 (hW.at (i := 0) rfl))) (fun v3 m3 hv3 => ?_)
  subst hv3
  have hfa4 := cCheck_range d0
  refine VO.as ?_
  refine VO.k5 0 1 2 3 4 ?_
  refine VC.rs ?_
  refine VO.mv ?_
  refine VO.y rfl (.neq rfl rfl) ?_
  refine VO.keep [102, 0] [(102, mone g1 (.cells [Value.int .i64 (d0.1), Value.int .i64 (d0.2.1), Value.slice p0_A2 (d0.2.2.length) (p0_c2)].toArray 43 (0, 0))), (0, wm W)] (by kernel_rfl) ?_
  refine VO.k6 0 1 2 3 4 8 ?_
  refine VC.cond rfl (fun hc5 => ?_) (fun hc5 => ?_)
  · -- T
    refine VC.rs ?_
    refine VO.mv ?_
    refine VO.as ?_
    refine VO.as ?_
    refine VO.k6 0 1 2 3 4 8 ?_
    refine VC.ret ?_
    refine outR ?_
    refine ⟨_, _, res_run (rs := [.tmp 2, .tmp 3]) rfl (.tmp rfl (.tmp rfl .nil)), fun W_ hI => out_of (l := []) hI [] rfl rfl (mle_refl _) (fun hS_ => ?_)⟩
    dsimp only [packV]
    have he0 : ((cEncode d0).1 : Ty.Den (.sl .byte)) = [] := by first | rfl | (first | (rw [cEncode_bad (by assumption)]; done) | (rw [cEncode_good (by assumption)]; done))
    refine ⟨Value.slice none (0) (0), ?_, ?_⟩
    rotate_left
    · rw [he0]; exact (Ow.nil _ _)
    all_goals (first | rfl | (first | (rw [cEncode_bad (by assumption)] <;> rfl) | (rw [cEncode_good (by assumption)] <;> rfl)))
  · -- F
    refine VC.skip ?_
    refine outN ?_
    refine VC.seq ?_
    refine VC.regD _ 13 [(0, true), (1, true), (2, true), (4, true), (5, true), (6, true), (8, true), (9, true), (3, false), (7, false), (10, false), (11, true), (12, true)] follows (by kernel_rfl) (fun _ h => h.sub [102, 0]) ?_
    refine VD.y rfl rfl (.inl rfl) (.fa rfl tst43 rfl) ?_
    refine VD.y rfl rfl (.inl rfl) (.ld1 102 rfl tk3 rfl (cellsAt_one rfl rfl)) ?_
    refine VD.y rfl rfl (.inl rfl) (.cvI (c := ((d0.1).toNat : Int)) rfl ⟨_, Try.underlying3⟩ Try.underlying62 (by rw [IntWalk.u64_in _ (by first | omega | (simp only [List.length_append, List.length_nil, List.length_cons, List.length_take, List.length_drop] at *; omega) | (have h_ := cCheck_zero (Decidable.not_not.1 ‹¬ ¬ cCheck d0 = 0›); omega) | (have h_ := cCheck_zero (Decidable.not_not.1 ‹¬ ¬ cCheck d0 = 0›); simp only [List.length_append, List.length_nil, List.length_cons] at *; omega))]; first | omega | (first | omega | (simp only [List.length_append, List.length_nil, List.length_cons, List.length_take, List.length_drop] at *; omega) | (have h_ := cCheck_zero (Decidable.not_not.1 ‹¬ ¬ cCheck d0 = 0›); omega) | (have h_ := cCheck_zero (Decidable.not_not.1 ‹¬ ¬ cCheck d0 = 0›); simp only [List.length_append, List.length_nil, List.length_cons] at *; omega)))) ?_
    refine VD.y rfl rfl (.inl rfl) (.fa rfl tst43 rfl) ?_
    refine VD.y rfl rfl (.inl rfl) (.ld1 102 rfl tk3 rfl (cellsAt_one rfl rfl)) ?_
    refine VD.y rfl rfl (.inl rfl) (.cvI (c := ((d0.2.1).toNat : Int)) rfl ⟨_, Try.underlying3⟩ Try.underlying62 (by rw [IntWalk.u64_in _ (by first | omega | (simp only [List.length_append, List.length_nil, List.length_cons, List.length_take, List.length_drop] at *; omega) | (have h_ := cCheck_zero (Decidable.not_not.1 ‹¬ ¬ cCheck d0 = 0›); omega) | (have h_ := cCheck_zero (Decidable.not_not.1 ‹¬ ¬ cCheck d0 = 0›); simp only [List.length_append, List.length_nil, List.length_cons] at *; omega))]; first | omega | (first | omega | (simp only [List.length_append, List.length_nil, List.length_cons, List.length_take, List.length_drop] at *; omega) | (have h_ := cCheck_zero (Decidable.not_not.1 ‹¬ ¬ cCheck d0 = 0›); omega) | (have h_ := cCheck_zero (Decidable.not_not.1 ‹¬ ¬ cCheck d0 = 0›); simp only [List.length_append, List.length_nil, List.length_cons] at *; omega)))) ?_
    refine VD.y rfl rfl (.inl rfl) (.fa rfl tst43 rfl) ?_
    refine VD.y rfl rfl (.inl rfl) (.ld1 102 rfl tk41 rfl (cellsAt_one rfl rfl)) ?_
    refine VD.callN 106 rfl rfl (.inl rfl) fnOk32 rfl (fun _ h => h.sub [102, 0]) (fun W hW => vAppend_ok W (Rd.nil _ _ none 0 (Nat.zero_le _)) ((d0.1).toNat) (by first | omega | (simp only [List.length_append, List.length_nil, List.length_cons, List.length_take, List.length_drop] at *; omega) | (have h_ := cCheck_zero (Decidable.not_not.1 ‹¬ ¬ cCheck d0 = 0›); omega) | (have h_ := cCheck_zero (Decidable.not_not.1 ‹¬ ¬ cCheck d0 = 0›); simp only [List.length_append, List.length_nil, List.length_cons] at *; omega)) (by first | omega | (simp only [List.length_append, List.length_nil, List.length_cons, List.length_take, List.length_drop] at *; omega) | (have h_ := cCheck_zero (Decidable.not_not.1 ‹¬ ¬ cCheck d0 = 0›); omega) | (have h_ := cCheck_zero (Decidable.not_not.1 ‹¬ ¬ cCheck d0 = 0›); simp only [List.length_append, List.length_nil, List.length_cons] at *; omega))) (fun v6 m6 hv6 => ?_)
    obtain ⟨s6_0, rfl, f6_0⟩ := hv6
    have hfa7 := venc_len (x := ((d0.1).toNat)) (by first | omega | exact or64 (by assumption) _)
    simp only [List.nil_append] at f6_0
    obtain ⟨A6_0, c6_0, eq6_0, l6_0, k6_0⟩ := f6_0.slice
    subst eq6_0
    simp only [maxLen] at k6_0
    refine VD.callN 108 rfl rfl (.inl rfl) fnOk32 rfl (fun _ h => h.sub [102, 0]) (fun W hW => vAppend_ok W (OwnL.rd (Ow.ownl f6_0 rfl mnil) (hW.at (i := 106) rfl) (mle_nil _)) ((d0.2.1).toNat) (by first | omega | (simp only [List.length_append, List.length_nil, List.length_cons, List.length_take, List.length_drop] at *; omega) | (have h_ := cCheck_zero (Decidable.not_not.1 ‹¬ ¬ cCheck d0 = 0›); omega) | (have h_ := cCheck_zero (Decidable.not_not.1 ‹¬ ¬ cCheck d0 = 0›); simp only [List.length_append, List.length_nil, List.length_cons] at *; omega)) (by first | omega | (simp only [List.length_append, List.length_nil, List.length_cons, List.length_take, List.length_drop] at *; omega) | (have h_ := cCheck_zero (Decidable.not_not.1 ‹¬ ¬ cCheck d0 = 0›); omega) | (have h_ := cCheck_zero (Decidable.not_not.1 ‹¬ ¬ cCheck d0 = 0›); simp only [List.length_append, List.length_nil, List.length_cons] at *; omega))) (fun v8 m8 hv8 => ?_)
    obtain ⟨s8_0, rfl, f8_0⟩ := hv8
    have hfa9 := venc_len (x := ((d0.2.1).toNat)) (by first | omega | exact or64 (by assumption) _)
    obtain ⟨A8_0, c8_0, eq8_0, l8_0, k8_0⟩ := f8_0.slice
    subst eq8_0
    simp only [maxLen] at k8_0
    refine VD.callN 110 rfl rfl (.inl rfl) fnOk64 rfl (fun _ h => h.sub [102, 0]) (fun W hW => bAppend_ok W (OwnL.rd (Ow.ownl f8_0 rfl mnil) (hW.at (i := 108) rfl) (mle_nil _)) (Rd.mono p0_2 (hW.at (i := 0) rfl)) (by first | omega | (simp only [List.length_append, List.length_nil, List.length_cons, List.length_take, List.length_drop] at *; omega) | (have h_ := cCheck_zero (Decidable.not_not.1 ‹¬ ¬ cCheck d0 = 0›); omega) | (have h_ := cCheck_zero (Decidable.not_not.1 ‹¬ ¬ cCheck d0 = 0›); simp only [List.length_append, List.length_nil, List.length_cons] at *; omega))) (fun v10 m10 hv10 => ?_)
    obtain ⟨s10_0, rfl, f10_0⟩ := hv10
    have hfa11 := bAppend_len ((venc ((d0.1).toNat)) ++ venc ((d0.2.1).toNat)) d0.2.2
    obtain ⟨A10_0, c10_0, eq10_0, l10_0, k10_0⟩ := f10_0.slice
    subst eq10_0
    simp only [maxLen] at k10_0
    refine VD.y rfl rfl (.inl rfl) (.ext rfl rfl) ?_
    refine VD.y rfl rfl (.inl rfl) (.ext rfl rfl) ?_
    refine VD.nil rfl ?_ rfl
    refine VO.as ?_
    refine VO.as ?_
    refine VO.k6 0 1 2 3 4 8 ?_
    refine outN ?_
    refine VC.ret ?_
    refine ⟨_, _, res_run (rs := [.tmp 2, .tmp 3]) rfl (.tmp rfl (.tmp rfl .nil)), fun W_ hI => out_of (l := [m10]) hI [110] rfl rfl (mle_refl _) (fun hS_ => ?_)⟩
    dsimp only [packV]
    have he0 : ((cEncode d0).1 : Ty.Den (.sl .byte)) = (bAppend ((venc ((d0.1).toNat)) ++ venc ((d0.2.1).toNat)) d0.2.2).1 := by first | rfl | (first | (rw [cEncode_bad (by assumption)]; done) | (rw [cEncode_good (by assumption)]; done))
    refine ⟨Value.slice A10_0 (((bAppend ((venc ((d0.1).toNat)) ++ venc ((d0.2.1).toNat)) d0.2.2).1).length) (c10_0), ?_, ?_⟩
    rotate_left
    · rw [he0]; exact (Ow.up (OwnL.ow (Ow.ownl f10_0 rfl mnil) rfl) (hS_.1 _ (.head _)))
    all_goals (first | rfl | (first | (rw [cEncode_bad (by assumption)] <;> rfl) | (rw [cEncode_good (by assumption)] <;> rfl)))
theorem cDecode_ok_ (W : World) {v0 : Value} {d0 : List UInt8} (h0 : Rd (.sl .byte) (wm W) [v0] d0) : CallR Try.prog 79 [v0] W (mnil) (fun v m' => ∃ (s0 : List Value), v = .tuple #[.agg s0.toArray, .int .i64 ((cDecode d0).2)] ∧ Ow TCommit m' s0 ((cDecode d0).1)) := by
  obtain ⟨A0, c0, rfl, l0, k0⟩ := h0.slice
  simp only [maxLen] at k0
  refine CallR.ofA (n := 65) Try.func79 rfl rfl rfl ?_
  refine VC.rs ?_
  refine VO.alloc 102 rfl tz43 (fun g1 => ?_)
  refine VO.as ?_
  refine VO.k3 0 2 3 ?_
  refine VC.rs ?_
  refine VO.mv ?_
  refine VO.callN 103 rfl fnOk78 rfl (fun W hW => vSmall_ok W (Rd.mono h0 (hW.at (i := 0) rfl)) 1048576 bdk) (fun v3 m3 hv3 => ?_)
  subst hv3
  have hfa4 := s_bounds d0 1048576 (by omega)
  refine VO.mv ?_
  refine VO.y rfl (.ext rfl rfl) ?_
  refine VO.y rfl (.ext rfl rfl) ?_
  refine VO.y rfl (.ext rfl rfl) ?_
  refine VO.as ?_
  refine VO.as ?_
  refine VO.as ?_
  refine VO.k6 0 2 3 4 5 6 ?_
  refine VC.seq ?_
  refine VC.rs ?_
  refine VO.mv ?_
  refine VO.y rfl (.neq rfl rfl) ?_
  refine VO.keep [102, 0] [(102, mone g1 (.cells [Value.int .i64 (0), Value.int .i64 (0), Value.slice none (0) (0)].toArray 43 (0, 0))), (0, wm W)] (by kernel_rfl) ?_
  refine VO.k7 0 2 3 4 5 6 19 ?_
  refine VC.cond rfl (fun hc5 => ?_) (fun hc5 => ?_)
  · -- T
    refine VC.rs ?_
    refine VO.y rfl (.bst (cs := [Value.int .i64 (0), Value.int .i64 (0), Value.slice none (0) (0)]) rfl tst43 tz43 rfl) ?_
    refine VO.store (k := 3) (c' := [Value.int .i64 (0), Value.int .i64 (0), Value.slice none (0) (0)]) 102 rfl rfl (.inl tk43) rfl rfl rfl rfl rfl ?_
    refine VO.as ?_
    refine VO.k7 0 2 3 4 5 6 19 ?_
    refine VC.ret ?_
    refine outR ?_
    refine ⟨_, _, res_run (rs := [.cell 2 43, .tmp 3]) rfl (.agg 102 rfl tk43 rfl ⟨_, _, _, mone_self _ _, Nat.le_of_ble_eq_true rfl, rfl⟩ (.tmp rfl .nil)), fun W_ hI => out_of (l := []) hI [] rfl rfl (mle_refl _) (fun hS_ => ?_)⟩
    dsimp only [packV]
    have he0 : ((cDecode d0).1 : Ty.Den TCommit) = (0, 0, []) := by first | rfl | (first | (rw [cDecode_e1 (by assumption)] <;> rfl) | (rw [cDecode_e2 (by assumption)] <;> rfl) | (rw [cDecode_e3 (by assumption)] <;> rfl) | (rw [cDecode_e4 (by assumption)] <;> rfl) | (rw [cDecode_e5 (by assumption)] <;> rfl) | (rw [cDecode_ok (by assumption) (by assumption) (by assumption) (by assumption) (by assumption)] <;> rfl))
    refine ⟨[Value.int .i64 (0), Value.int .i64 (0), Value.slice none (0) (0)], ?_, ?_⟩
    rotate_left
    · rw [he0]; exact (mkO_Commit 0 0 [] (Seps.nilAt 0 hS_) bdk bdk (Ow.nil _ _))
    all_goals (first | rfl | (first | (rw [cDecode_e1 (by assumption)] <;> rfl) | (rw [cDecode_e2 (by assumption)] <;> rfl) | (rw [cDecode_e3 (by assumption)] <;> rfl) | (rw [cDecode_e4 (by assumption)] <;> rfl) | (rw [cDecode_e5 (by assumption)] <;> rfl) | (rw [cDecode_ok (by assumption) (by assumption) (by assumption) (by assumption) (by assumption)] <;> rfl)))
  · -- F
    refine VC.skip ?_
    refine outN ?_
    refine VC.rs ?_
    refine VO.mv ?_
    refine VO.mv ?_
    obtain ⟨A6, hA6, hs6⟩ := h0.drop 1 (sN d0 1048576) rfl bd
    refine VO.y rfl (.slLI (sN d0 1048576) A6 rfl rfl tsl30 rfl hA6 bd) ?_
    refine VO.callN 107 rfl fnOk78 rfl (fun W hW => vSmall_ok W (Rd.mono hs6 (hW.at (i := 0) rfl)) 1048576 bdk) (fun v7 m7 hv7 => ?_)
    subst hv7
    have hfa8 := s_bounds (d0.drop (sN d0 1048576)) 1048576 (by omega)
    refine VO.mv ?_
    refine VO.y rfl (.ext rfl rfl) ?_
    refine VO.y rfl (.ext rfl rfl) ?_
    refine VO.y rfl (.ext rfl rfl) ?_
    refine VO.as ?_
    refine VO.as ?_
    refine VO.as ?_
    refine VO.k9 0 2 3 4 5 6 7 8 19 ?_
    refine VC.seq ?_
    refine VC.rs ?_
    refine VO.mv ?_
    refine VO.y rfl (.neq rfl rfl) ?_
    refine VO.k10 0 2 3 4 5 6 7 8 19 30 ?_
    refine VC.cond rfl (fun hc9 => ?_) (fun hc9 => ?_)
    · -- FT
      refine VC.rs ?_
      refine VO.y rfl (.bst (cs := [Value.int .i64 (0), Value.int .i64 (0), Value.slice none (0) (0)]) rfl tst43 tz43 rfl) ?_
      refine VO.store (k := 3) (c' := [Value.int .i64 (0), Value.int .i64 (0), Value.slice none (0) (0)]) 102 rfl rfl (.inl tk43) rfl rfl rfl rfl rfl ?_
      refine VO.as ?_
      refine VO.keep [102, 0] [(102, mone g1 (.cells [Value.int .i64 (0), Value.int .i64 (0), Value.slice none (0) (0)].toArray 43 (0, 0))), (0, wm W)] (by kernel_rfl) ?_
      refine VO.k10 0 2 3 4 5 6 7 8 19 30 ?_
      refine VC.ret ?_
      refine outR ?_
      refine ⟨_, _, res_run (rs := [.cell 2 43, .tmp 3]) rfl (.agg 102 rfl tk43 rfl ⟨_, _, _, mone_self _ _, Nat.le_of_ble_eq_true rfl, rfl⟩ (.tmp rfl .nil)), fun W_ hI => out_of (l := []) hI [] rfl rfl (mle_refl _) (fun hS_ => ?_)⟩
      dsimp only [packV]
      have he0 : ((cDecode d0).1 : Ty.Den TCommit) = (0, 0, []) := by first | rfl | (first | (rw [cDecode_e1 (by assumption)] <;> rfl) | (rw [cDecode_e2 (by assumption)] <;> rfl) | (rw [cDecode_e3 (by assumption)] <;> rfl) | (rw [cDecode_e4 (by assumption)] <;> rfl) | (rw [cDecode_e5 (by assumption)] <;> rfl) | (rw [cDecode_ok (by assumption) (by assumption) (by assumption) (by assumption) (by assumption)] <;> rfl))
      refine ⟨[Value.int .i64 (0), Value.int .i64 (0), Value.slice none (0) (0)], ?_, ?_⟩
      rotate_left
      · rw [he0]; exact (mkO_Commit 0 0 [] (Seps.nilAt 0 hS_) bdk bdk (Ow.nil _ _))
      all_goals (first | rfl | (first | (rw [cDecode_e1 (by assumption)] <;> rfl) | (rw [cDecode_e2 (by assumption)] <;> rfl) | (rw [cDecode_e3 (by assumption)] <;> rfl) | (rw [cDecode_e4 (by assumption)] <;> rfl) | (rw [cDecode_e5 (by assumption)] <;> rfl) | (rw [cDecode_ok (by assumption) (by assumption) (by assumption) (by assumption) (by assumption)] <;> rfl)))
    · -- FF
      refine VC.skip ?_
      refine outN ?_
      refine VC.rs ?_
      refine VO.mv ?_
      refine VO.mv ?_
      refine VO.mv ?_
      refine VO.y rfl (.add (c := ((sN d0 1048576 + (sN (d0.drop (sN d0 1048576)) 1048576) : Nat) : Int)) rfl rfl (by omega) ⟨bd, bd⟩) ?_
      obtain ⟨A10, hA10, hs10⟩ := h0.drop 1 (sN d0 1048576 + (sN (d0.drop (sN d0 1048576)) 1048576)) rfl bd
      refine VO.y rfl (.slLI (sN d0 1048576 + (sN (d0.drop (sN d0 1048576)) 1048576)) A10 rfl rfl tsl30 rfl hA10 bd) ?_
      refine VO.callN 111 rfl fnOk97 rfl (fun W hW => bRead_ok W (Rd.mono hs10 (hW.at (i := 0) rfl))) (fun v11 m11 hv11 => ?_)
      obtain ⟨s11_0, rfl, f11_0⟩ := hv11
      have hfa12 := bRead_fits (d0.drop (sN d0 1048576 + (sN (d0.drop (sN d0 1048576)) 1048576)))
      obtain ⟨A11_0, c11_0, eq11_0, l11_0, k11_0⟩ := f11_0.slice
      subst eq11_0
      simp only [maxLen] at k11_0
      refine VO.mv ?_
      refine VO.y rfl (.ext rfl rfl) ?_
      refine VO.y rfl (.ext rfl rfl) ?_
      refine VO.y rfl (.ext rfl rfl) ?_
      refine VO.as ?_
      refine VO.as ?_
      refine VO.as ?_
      refine VO.keep [111, 102, 0] [(111, m11), (102, mone g1 (.cells [Value.int .i64 (0), Value.int .i64 (0), Value.slice none (0) (0)].toArray 43 (0, 0))), (0, wm W)] (by kernel_rfl) ?_
      refine VO.k12 0 2 3 4 5 6 7 8 9 10 19 30 ?_
      refine VC.rs ?_
      refine VO.mv ?_
      refine VO.mv ?_
      refine VO.mv ?_
      refine VO.y rfl (.bst (cs := [Value.int .i64 (((sX d0 1048576 : Nat) : Int)), Value.int .i64 (((sX (d0.drop (sN d0 1048576)) 1048576 : Nat) : Int)), Value.slice A11_0 (((bRead (d0.drop (sN d0 1048576 + (sN (d0.drop (sN d0 1048576)) 1048576)))).1).length) (c11_0)]) rfl tst43 tz43 rfl) ?_
      refine VO.alloc 114 rfl tz43 (fun g13 => ?_)
      refine VO.store (k := 3) (c' := [Value.int .i64 (((sX d0 1048576 : Nat) : Int)), Value.int .i64 (((sX (d0.drop (sN d0 1048576)) 1048576 : Nat) : Int)), Value.slice A11_0 (((bRead (d0.drop (sN d0 1048576 + (sN (d0.drop (sN d0 1048576)) 1048576)))).1).length) (c11_0)]) 114 rfl rfl (.inl tk43) rfl rfl rfl rfl rfl ?_
      refine VO.k13 0 2 3 4 5 6 7 8 9 10 11 19 30 ?_
      refine VC.seq ?_
      refine VC.rs ?_
      refine VO.mv ?_
      refine VO.y rfl (.neq rfl rfl) ?_
      refine VO.mv ?_
      refine VO.dec (t := 48) rfl (fun hc15 => ?_) (fun hc15 => ?_)
      · -- FFT
        refine VO.gN ?_
        refine VO.gN ?_
        refine VO.gN ?_
        refine VO.gN ?_
        refine VO.gN ?_
        refine VO.gN ?_
        refine VO.gN ?_
        refine VO.gN ?_
        refine VO.y rfl (.pT rfl rfl) ?_
        refine VO.mv ?_
        refine VO.gN ?_
        refine VO.gN ?_
        refine VO.gN ?_
        refine VO.y rfl (.pT rfl rfl) ?_
        refine VO.k14 0 2 3 4 5 6 7 8 9 10 11 19 30 62 ?_
        refine VC.condT rfl ?_
        refine VC.rs ?_
        refine VO.y rfl (.bst (cs := [Value.int .i64 (0), Value.int .i64 (0), Value.slice none (0) (0)]) rfl tst43 tz43 rfl) ?_
        refine VO.store (k := 3) (c' := [Value.int .i64 (0), Value.int .i64 (0), Value.slice none (0) (0)]) 102 rfl rfl (.inl tk43) rfl rfl rfl rfl rfl ?_
        refine VO.as ?_
        refine VO.keep [114, 111, 102, 0] [(114, mone g13 (.cells [Value.int .i64 (((sX d0 1048576 : Nat) : Int)), Value.int .i64 (((sX (d0.drop (sN d0 1048576)) 1048576 : Nat) : Int)), Value.slice A11_0 (((bRead (d0.drop (sN d0 1048576 + (sN (d0.drop (sN d0 1048576)) 1048576)))).1).length) (c11_0)].toArray 43 (0, 0))), (111, m11), (102, mone g1 (.cells [Value.int .i64 (0), Value.int .i64 (0), Value.slice none (0) (0)].toArray 43 (0, 0))), (0, wm W)] (by kernel_rfl) ?_
        refine VO.k14 0 2 3 4 5 6 7 8 9 10 11 19 30 62 ?_
        refine VC.ret ?_
        refine outR ?_
        refine ⟨_, _, res_run (rs := [.cell 2 43, .tmp 3]) rfl (.agg 102 rfl tk43 rfl ⟨_, _, _, mone_self _ _, Nat.le_of_ble_eq_true rfl, rfl⟩ (.tmp rfl .nil)), fun W_ hI => out_of (l := []) hI [] rfl rfl (mle_refl _) (fun hS_ => ?_)⟩
        dsimp only [packV]
        have he0 : ((cDecode d0).1 : Ty.Den TCommit) = (0, 0, []) := by first | rfl | (first | (rw [cDecode_e1 (by assumption)] <;> rfl) | (rw [cDecode_e2 (by assumption)] <;> rfl) | (rw [cDecode_e3 (by assumption)] <;> rfl) | (rw [cDecode_e4 (by assumption)] <;> rfl) | (rw [cDecode_e5 (by assumption)] <;> rfl) | (rw [cDecode_ok (by assumption) (by assumption) (by assumption) (by assumption) (by assumption)] <;> rfl))
        refine ⟨[Value.int .i64 (0), Value.int .i64 (0), Value.slice none (0) (0)], ?_, ?_⟩
        rotate_left
        · rw [he0]; exact (mkO_Commit 0 0 [] (Seps.nilAt 0 hS_) bdk bdk (Ow.nil _ _))
        all_goals (first | rfl | (first | (rw [cDecode_e1 (by assumption)] <;> rfl) | (rw [cDecode_e2 (by assumption)] <;> rfl) | (rw [cDecode_e3 (by assumption)] <;> rfl) | (rw [cDecode_e4 (by assumption)] <;> rfl) | (rw [cDecode_e5 (by assumption)] <;> rfl) | (rw [cDecode_ok (by assumption) (by assumption) (by assumption) (by assumption) (by assumption)] <;> rfl)))
      · -- FFF
        refine VO.gy rfl ⟨_, rfl, rfl⟩ (.mv rfl) ?_
        refine VO.gy rfl ⟨_, rfl, rfl⟩ (.mv rfl) ?_
        refine VO.gy rfl ⟨_, rfl, rfl⟩ (.add (c := ((sN d0 1048576 + (sN (d0.drop (sN d0 1048576)) 1048576) : Nat) : Int)) rfl rfl (by omega) ⟨bd, bd⟩) ?_
        refine VO.gy rfl ⟨_, rfl, rfl⟩ (.mv rfl) ?_
        refine VO.gy rfl ⟨_, rfl, rfl⟩ (.add rfl rfl rfl ⟨bd, bd⟩) ?_
        refine VO.gy rfl ⟨_, rfl, rfl⟩ (.mv rfl) ?_
        refine VO.gy rfl ⟨_, rfl, rfl⟩ (.lenS rfl tsl30) ?_
        refine VO.gy rfl ⟨_, rfl, rfl⟩ (.neq rfl rfl) ?_
        refine VO.y rfl (.pF rfl rfl) ?_
        refine VO.mv ?_
        refine VO.dec (t := 58) rfl (fun hc16 => ?_) (fun hc16 => ?_)
        · -- FFFT
          refine VO.gN ?_
          refine VO.gN ?_
          refine VO.gN ?_
          refine VO.y rfl (.pT rfl rfl) ?_
          refine VO.k14 0 2 3 4 5 6 7 8 9 10 11 19 30 62 ?_
          refine VC.condT rfl ?_
          refine VC.rs ?_
          refine VO.y rfl (.bst (cs := [Value.int .i64 (0), Value.int .i64 (0), Value.slice none (0) (0)]) rfl tst43 tz43 rfl) ?_
          refine VO.store (k := 3) (c' := [Value.int .i64 (0), Value.int .i64 (0), Value.slice none (0) (0)]) 102 rfl rfl (.inl tk43) rfl rfl rfl rfl rfl ?_
          refine VO.as ?_
          refine VO.keep [114, 111, 102, 0] [(114, mone g13 (.cells [Value.int .i64 (((sX d0 1048576 : Nat) : Int)), Value.int .i64 (((sX (d0.drop (sN d0 1048576)) 1048576 : Nat) : Int)), Value.slice A11_0 (((bRead (d0.drop (sN d0 1048576 + (sN (d0.drop (sN d0 1048576)) 1048576)))).1).length) (c11_0)].toArray 43 (0, 0))), (111, m11), (102, mone g1 (.cells [Value.int .i64 (0), Value.int .i64 (0), Value.slice none (0) (0)].toArray 43 (0, 0))), (0, wm W)] (by kernel_rfl) ?_
          refine VO.k14 0 2 3 4 5 6 7 8 9 10 11 19 30 62 ?_
          refine VC.ret ?_
          refine outR ?_
          refine ⟨_, _, res_run (rs := [.cell 2 43, .tmp 3]) rfl (.agg 102 rfl tk43 rfl ⟨_, _, _, mone_self _ _, Nat.le_of_ble_eq_true rfl, rfl⟩ (.tmp rfl .nil)), fun W_ hI => out_of (l := []) hI [] rfl rfl (mle_refl _) (fun hS_ => ?_)⟩
          dsimp only [packV]
          have he0 : ((cDecode d0).1 : Ty.Den TCommit) = (0, 0, []) := by first | rfl | (first | (rw [cDecode_e1 (by assumption)] <;> rfl) | (rw [cDecode_e2 (by assumption)] <;> rfl) | (rw [cDecode_e3 (by assumption)] <;> rfl) | (rw [cDecode_e4 (by assumption)] <;> rfl) | (rw [cDecode_e5 (by assumption)] <;> rfl) | (rw [cDecode_ok (by assumption) (by assumption) (by assumption) (by assumption) (by assumption)] <;> rfl))
          refine ⟨[Value.int .i64 (0), Value.int .i64 (0), Value.slice none (0) (0)], ?_, ?_⟩
          rotate_left
          · rw [he0]; exact (mkO_Commit 0 0 [] (Seps.nilAt 0 hS_) bdk bdk (Ow.nil _ _))
          all_goals (first | rfl | (first | (rw [cDecode_e1 (by assumption)] <;> rfl) | (rw [cDecode_e2 (by assumption)] <;> rfl) | (rw [cDecode_e3 (by assumption)] <;> rfl) | (rw [cDecode_e4 (by assumption)] <;> rfl) | (rw [cDecode_e5 (by assumption)] <;> rfl) | (rw [cDecode_ok (by assumption) (by assumption) (by assumption) (by assumption) (by assumption)] <;> rfl)))
        · -- FFFF
          refine VO.gy rfl ⟨_, rfl, rfl⟩ (.ldA 114 rfl tk43 rfl (cellsAt_one rfl rfl)) ?_
          refine VO.gcallN 117 rfl ⟨_, rfl, rfl⟩ fnOk63 rfl (fun W hW => cCheck_ok_ W (mk_Commit (m := wm W) ((sX d0 1048576 : Nat) : Int) ((sX (d0.drop (sN d0 1048576)) 1048576 : Nat) : Int) ((bRead (d0.drop (sN d0 1048576 + (sN (d0.drop (sN d0 1048576)) 1048576)))).1) bdk bdk (OwnL.rd (Ow.ownl f11_0 rfl mnil) (hW.at (i := 111) rfl) (mle_nil _)))) (fun v17 m17 hv17 => ?_)
          try dsimp only at hv17
          subst hv17
          have hfa18 := cCheck_range (((sX d0 1048576 : Nat) : Int), ((sX (d0.drop (sN d0 1048576)) 1048576 : Nat) : Int), (bRead (d0.drop (sN d0 1048576 + (sN (d0.drop (sN d0 1048576)) 1048576)))).1)
          refine VO.gy rfl ⟨_, rfl, rfl⟩ (.neq rfl rfl) ?_
          refine VO.y rfl (.pF rfl rfl) ?_
          refine VO.k14 0 2 3 4 5 6 7 8 9 10 11 19 30 62 ?_
          refine VC.cond rfl (fun hc19 => ?_) (fun hc19 => ?_)
          · -- FFFFT
            refine VC.rs ?_
            refine VO.y rfl (.bst (cs := [Value.int .i64 (0), Value.int .i64 (0), Value.slice none (0) (0)]) rfl tst43 tz43 rfl) ?_
            refine VO.store (k := 3) (c' := [Value.int .i64 (0), Value.int .i64 (0), Value.slice none (0) (0)]) 102 rfl rfl (.inl tk43) rfl rfl rfl rfl rfl ?_
            refine VO.as ?_
            refine VO.keep [114, 111, 102, 0] [(114, mone g13 (.cells [Value.int .i64 (((sX d0 1048576 : Nat) : Int)), Value.int .i64 (((sX (d0.drop (sN d0 1048576)) 1048576 : Nat) : Int)), Value.slice A11_0 (((bRead (d0.drop (sN d0 1048576 + (sN (d0.drop (sN d0 1048576)) 1048576)))).1).length) (c11_0)].toArray 43 (0, 0))), (111, m11), (102, mone g1 (.cells [Value.int .i64 (0), Value.int .i64 (0), Value.slice none (0) (0)].toArray 43 (0, 0))), (0, wm W)] (by kernel_rfl) ?_
            refine VO.k14 0 2 3 4 5 6 7 8 9 10 11 19 30 62 ?_
            refine VC.ret ?_
            refine outR ?_
            refine ⟨_, _, res_run (rs := [.cell 2 43, .tmp 3]) rfl (.agg 102 rfl tk43 rfl ⟨_, _, _, mone_self _ _, Nat.le_of_ble_eq_true rfl, rfl⟩ (.tmp rfl .nil)), fun W_ hI => out_of (l := []) hI [] rfl rfl (mle_refl _) (fun hS_ => ?_)⟩
            dsimp only [packV]
            have he0 : ((cDecode d0).1 : Ty.Den TCommit) = (0, 0, []) := by first | rfl | (first | (rw [cDecode_e1 (by assumption)] <;> rfl) | (rw [cDecode_e2 (by assumption)] <;> rfl) | (rw [cDecode_e3 (by assumption)] <;> rfl) | (rw [cDecode_e4 (by assumption)] <;> rfl) | (rw [cDecode_e5 (by assumption)] <;> rfl) | (rw [cDecode_ok (by assumption) (by assumption) (by assumption) (by assumption) (by assumption)] <;> rfl))
            refine ⟨[Value.int .i64 (0), Value.int .i64 (0), Value.slice none (0) (0)], ?_, ?_⟩
            rotate_left
            · rw [he0]; exact (mkO_Commit 0 0 [] (Seps.nilAt 0 hS_) bdk bdk (Ow.nil _ _))
            all_goals (first | rfl | (first | (rw [cDecode_e1 (by assumption)] <;> rfl) | (rw [cDecode_e2 (by assumption)] <;> rfl) | (rw [cDecode_e3 (by assumption)] <;> rfl) | (rw [cDecode_e4 (by assumption)] <;> rfl) | (rw [cDecode_e5 (by assumption)] <;> rfl) | (rw [cDecode_ok (by assumption) (by assumption) (by assumption) (by assumption) (by assumption)] <;> rfl)))
          · -- FFFFF
            refine VC.skip ?_
            refine outN ?_
            refine VC.rs ?_
            refine VO.y rfl (.ldA 114 rfl tk43 rfl (cellsAt_one rfl rfl)) ?_
            refine VO.store (k := 3) (c' := [Value.int .i64 (((sX d0 1048576 : Nat) : Int)), Value.int .i64 (((sX (d0.drop (sN d0 1048576)) 1048576 : Nat) : Int)), Value.slice A11_0 (((bRead (d0.drop (sN d0 1048576 + (sN (d0.drop (sN d0 1048576)) 1048576)))).1).length) (c11_0)]) 102 rfl rfl (.inl tk43) rfl rfl rfl rfl rfl ?_
            refine VO.as ?_
            refine VO.keep [114, 111, 102, 0] [(114, mone g13 (.cells [Value.int .i64 (((sX d0 1048576 : Nat) : Int)), Value.int .i64 (((sX (d0.drop (sN d0 1048576)) 1048576 : Nat) : Int)), Value.slice A11_0 (((bRead (d0.drop (sN d0 1048576 + (sN (d0.drop (sN d0 1048576)) 1048576)))).1).length) (c11_0)].toArray 43 (0, 0))), (111, m11), (102, mone g1 (.cells [Value.int .i64 (((sX d0 1048576 : Nat) : Int)), Value.int .i64 (((sX (d0.drop (sN d0 1048576)) 1048576 : Nat) : Int)), Value.slice A11_0 (((bRead (d0.drop (sN d0 1048576 + (sN (d0.drop (sN d0 1048576)) 1048576)))).1).length) (c11_0)].toArray 43 (0, 0))), (0, wm W)] (by kernel_rfl) ?_
            refine VO.k14 0 2 3 4 5 6 7 8 9 10 11 19 30 62 ?_
            refine VC.ret ?_
            refine ⟨_, _, res_run (rs := [.cell 2 43, .tmp 3]) rfl (.agg 102 rfl tk43 rfl ⟨_, _, _, mone_self _ _, Nat.le_of_ble_eq_true rfl, rfl⟩ (.tmp rfl .nil)), fun W_ hI => out_of (l := [m11]) hI [111] rfl rfl (mle_refl _) (fun hS_ => ?_)⟩
            dsimp only [packV]
            have he0 : ((cDecode d0).1 : Ty.Den TCommit) = (((sX d0 1048576 : Nat) : Int), ((sX (d0.drop (sN d0 1048576)) 1048576 : Nat) : Int), (bRead (d0.drop (sN d0 1048576 + (sN (d0.drop (sN d0 1048576)) 1048576)))).1) := by first | rfl | (first | (rw [cDecode_e1 (by assumption)] <;> rfl) | (rw [cDecode_e2 (by assumption)] <;> rfl) | (rw [cDecode_e3 (by assumption)] <;> rfl) | (rw [cDecode_e4 (by assumption)] <;> rfl) | (rw [cDecode_e5 (by assumption)] <;> rfl) | (rw [cDecode_ok (by assumption) (by assumption) (by assumption) (by assumption) (by assumption)] <;> rfl))
            refine ⟨[Value.int .i64 (((sX d0 1048576 : Nat) : Int)), Value.int .i64 (((sX (d0.drop (sN d0 1048576)) 1048576 : Nat) : Int)), Value.slice A11_0 (((bRead (d0.drop (sN d0 1048576 + (sN (d0.drop (sN d0 1048576)) 1048576)))).1).length) (c11_0)], ?_, ?_⟩
            rotate_left
            · rw [he0]; exact (mkO_Commit ((sX d0 1048576 : Nat) : Int) ((sX (d0.drop (sN d0 1048576)) 1048576 : Nat) : Int) ((bRead (d0.drop (sN d0 1048576 + (sN (d0.drop (sN d0 1048576)) 1048576)))).1) hS_ bdk bdk (OwnL.ow (Ow.ownl f11_0 rfl mnil) rfl))
            all_goals (first | rfl | (first | (rw [cDecode_e1 (by assumption)] <;> rfl) | (rw [cDecode_e2 (by assumption)] <;> rfl) | (rw [cDecode_e3 (by assumption)] <;> rfl) | (rw [cDecode_e4 (by assumption)] <;> rfl) | (rw [cDecode_e5 (by assumption)] <;> rfl) | (rw [cDecode_ok (by assumption) (by assumption) (by assumption) (by assumption) (by assumption)] <;> rfl)))
end
section
set_option linter.unusedVariables false
abbrev DHC := Int × Int × Hd
instance decHC : DecidableEq DHC := (@instDecidableEqProd _ _ inferInstance (@instDecidableEqProd _ _ inferInstance inferInstance))
end
section
set_option linter.unusedVariables false
set_option linter.unusedSimpArgs false
set_option maxRecDepth 4000
theorem tz26 : tz Try.prog 26 = some [.int .i64 0, .int .i64 0, .int .u8 0, .int .i64 0, .slice none 0 0, .int .i64 0, .int .i64 0, .slice none 0 0] := by kernel_rfl
end
section
set_option linter.unusedVariables false
def putAll : List Int → Bytes
  | [] => []
  | x :: r => venc x.toNat ++ putAll r
theorem putAll_app : ∀ (a b : List Int), putAll (a ++ b) = putAll a ++ putAll b
  | [], _ => rfl
  | x :: r, b => by rw [List.cons_append, putAll, putAll, putAll_app r b, List.append_assoc]
theorem putAll_next {l : List Int} {d b : Bytes} {k : Nat} {x : Int} (h : b = d ++ putAll (l.take k)) (hx : l[k]? = some x) : b ++ venc x.toNat = d ++ putAll (l.take (k + 1)) := by
  rw [take_one hx, putAll_app, h, List.append_assoc]
  congr 1
  simp [putAll]
theorem putAll_len : ∀ {l : List Int}, (∀ x ∈ l, x < 18446744073709551616) → (putAll l).length ≤ 10 * l.length
  | [], _ => Nat.zero_le _
  | x :: r, h => by
    have h1 := venc_len (x := x.toNat) (by have := h x (.head _); omega)
    have h2 := putAll_len fun y hy => h y (.tail _ hy)
    rw [putAll, List.length_append, List.length_cons]; omega
def sEnc : List DStart → Bytes
  | [] => []
  | s :: r => venc s.1.toNat ++ (venc s.2.toNat ++ sEnc r)
def csEnc : List DCommit → Bytes
  | [] => []
  | c :: r => venc (cEnc c).length ++ (cEnc c ++ csEnc r)
theorem sEnc_app : ∀ (a b : List DStart), sEnc (a ++ b) = sEnc a ++ sEnc b
  | [], _ => rfl
  | x :: r, b => by rw [List.cons_append, sEnc, sEnc, sEnc_app r b]; simp only [List.append_assoc]
theorem csEnc_app : ∀ (a b : List DCommit), csEnc (a ++ b) = csEnc a ++ csEnc b
  | [], _ => rfl
  | x :: r, b => by rw [List.cons_append, csEnc, csEnc, csEnc_app r b]; simp only [List.append_assoc]
def lBody (m : DMessage) : Bytes :=
  if m.1 = 1 then venc m.2.2.1.toNat ++ (venc m.2.2.2.1.toNat ++ (venc m.2.2.2.2.1.length ++ sEnc m.2.2.2.2.1))
  else if m.1 = 2 then venc m.2.2.2.2.2.1.toNat ++ (venc m.2.2.2.2.2.2.1.toNat ++ (venc m.2.2.2.2.2.2.2.length ++ csEnc m.2.2.2.2.2.2.2)) else venc m.2.2.2.1.toNat
def lEnc (m : DMessage) : Bytes := venc m.1.toNat ++ (venc m.2.1.toNat ++ lBody m)
def lEncode (m : DMessage) : Bytes × Int := if lCheck m = 0 then (lEnc m, 0) else ([], lCheck m)
theorem sGo_facts {en : Int} : ∀ {l : List DStart} {le lf : Int} {i : Nat}, sGo en le lf i l → 0 ≤ le → le ≤ 1048576 → 0 ≤ lf → en ≤ 1048576 → le + (l.length : Int) ≤ 1048576 ∧ ∀ s ∈ l, (1 ≤ s.1 ∧ s.1 ≤ 1048576) ∧ 1 ≤ s.2 ∧ s.2 ≤ 1048576
  | [], le, lf, i, _, h0, h1, _, _ => ⟨by simp; omega, fun s h => by cases h⟩
  | x :: r, le, lf, i, h, h0, h1, h2, h3 => by
    obtain ⟨k1, k2, k3, k4, k5, k6⟩ := h
    obtain ⟨q1, q2⟩ := sGo_facts k6 (by omega) k2 (by omega) h3
    refine ⟨by simp only [List.length_cons]; omega, fun s hs => ?_⟩
    rcases List.mem_cons.1 hs with rfl | hs
    · exact ⟨⟨by omega, by omega⟩, by omega, by omega⟩
    · exact q2 s hs
section
variable {m : DMessage}
theorem lc_nums (h : lCheck m = 0) : 1 ≤ m.1 ∧ m.1 ≤ 3 ∧ 1 ≤ m.2.1 ∧ m.2.1 ≤ 1048576 := by
  unfold lCheck at h
  split at h
  · rename_i hh
    rcases hh.2 with ⟨a, _⟩ | ⟨a, _⟩ | ⟨a, _⟩ <;> omega
  · cases h
theorem lc_hello (h : lCheck m = 0) (k : m.1 = 1) : (1 ≤ m.2.2.1 ∧ m.2.2.1 ≤ 3) ∧ (0 ≤ m.2.2.2.1 ∧ m.2.2.2.1 ≤ 1048576) ∧ m.2.2.2.2.1.length ≤ 1048576 ∧ (∀ s ∈ m.2.2.2.2.1, (1 ≤ s.1 ∧ s.1 ≤ 1048576) ∧ 1 ≤ s.2 ∧ s.2 ≤ 1048576) ∧
    m.2.2.2.2.2.1 = 0 ∧ m.2.2.2.2.2.2.1 = 0 ∧ m.2.2.2.2.2.2.2 = [] := by
  unfold lCheck at h
  split at h
  · rename_i hh
    rcases hh.2 with ⟨_, b⟩ | ⟨a, _⟩ | ⟨a, _⟩
    · obtain ⟨b1, b2, b3, b4, b5, b6⟩ := b
      unfold sCheck at b2
      split at b2
      · rename_i hq
        obtain ⟨q1, q2⟩ := sGo_facts hq.2.2.2 (by omega) (by omega) (by omega) hq.2.1
        exact ⟨b1, ⟨hq.1, hq.2.1⟩, by omega, q2, b4, b5, List.eq_nil_of_length_eq_zero b6⟩
      · cases b2
    · omega
    · omega
  · cases h
theorem lc_ack (h : lCheck m = 0) (k1 : ¬ m.1 = 1) (k2 : ¬ m.1 = 2) : ackM m ∧ m.1 = 3 := by
  unfold lCheck at h
  split at h
  · rename_i hh
    rcases hh.2 with ⟨a, _⟩ | ⟨a, _⟩ | ⟨a, b⟩
    · omega
    · omega
    · exact ⟨b, a⟩
  · cases h
theorem cEnc_len {c : DCommit} (h : cCheck c = 0) : (cEnc c).length ≤ 700 := by
  have := cEncode_len c
  unfold cEncode at this
  rw [if_pos h] at this
  exact this
end
def lHd (m : DMessage) : Bytes := venc m.1.toNat ++ (venc m.2.1.toNat ++ (venc m.2.2.1.toNat ++ (venc m.2.2.2.1.toNat ++ venc m.2.2.2.2.1.length)))
def lHs (m : DMessage) : Bytes := venc m.1.toNat ++ (venc m.2.1.toNat ++ (venc m.2.2.2.2.2.1.toNat ++ (venc m.2.2.2.2.2.2.1.toNat ++ venc m.2.2.2.2.2.2.2.length)))
theorem lEncode_bad {m : DMessage} (h : ¬ lCheck m = 0) : lEncode m = ([], lCheck m) := if_neg h
theorem lEncode_hello {m : DMessage} (h : lCheck m = 0) (k : m.1 = 1) : lEncode m = (lHd m ++ sEnc m.2.2.2.2.1, 0) := by
  unfold lEncode; rw [if_pos h, lEnc, lBody, if_pos k, lHd]; simp only [List.append_assoc]
theorem lEncode_ship {m : DMessage} (h : lCheck m = 0) (k1 : ¬ m.1 = 1) (k : m.1 = 2) : lEncode m = (lHs m ++ csEnc m.2.2.2.2.2.2.2, 0) := by
  unfold lEncode; rw [if_pos h, lEnc, lBody, if_neg k1, if_pos k, lHs]; simp only [List.append_assoc]
theorem lEncode_ack {m : DMessage} (h : lCheck m = 0) (k1 : ¬ m.1 = 1) (k : ¬ m.1 = 2) : lEncode m = (venc m.1.toNat ++ (venc m.2.1.toNat ++ venc m.2.2.2.1.toNat), 0) := by
  unfold lEncode; rw [if_pos h, lEnc, lBody, if_neg k1, if_neg k]
theorem cEncode_is {c : DCommit} (h : cCheck c = 0) : cEncode c = (cEnc c, 0) := if_pos h
def rStart (B : Bytes) (s : RS) : DStart × RS := (((rNum B 1048576 s).1, (rNum B 1048576 (rNum B 1048576 s).2).1), (rNum B 1048576 (rNum B 1048576 s).2).2)
def pStarts (B : Bytes) : Nat → RS → List DStart × RS
  | 0, s => ([], s)
  | n + 1, s => if s.2 = true then ([], s) else ((rStart B s).1 :: (pStarts B n (rStart B s).2).1, (pStarts B n (rStart B s).2).2)
def pComms (R : RS → DCommit × RS) : Nat → RS → List DCommit × RS
  | 0, s => ([], s)
  | n + 1, s => if s.2 = true then ([], s) else ((R s).1 :: (pComms R n (R s).2).1, (pComms R n (R s).2).2)
def lRun (R : RS → DCommit × RS) (B : Bytes) : DMessage × RS :=
  let k := rNum B 3 (0, false)
  let e := rNum B 1048576 k.2
  if k.1 = 1 then
    let r := rNum B 3 e.2
    let n := rNum B 1048576 r.2
    let c := rNum B 1048576 n.2
    let l := pStarts B c.1.toNat c.2
    ((k.1, e.1, r.1, n.1, l.1, 0, 0, []), l.2)
  else if k.1 = 2 then
    let f := rNum B 1048576 e.2
    let p := rNum B 1048576 f.2
    let c := rNum B 4 p.2
    let l := pComms R c.1.toNat c.2
    ((k.1, e.1, 0, 0, [], f.1, p.1, l.1), l.2)
  else
    let n := rNum B 1048576 e.2
    ((k.1, e.1, 0, n.1, [], 0, 0, []), n.2)
def lDecG (R : RS → DCommit × RS) (B : Bytes) : DMessage × Int := if (lRun R B).2.2 = false ∧ (lRun R B).2.1 = (B.length : Int) ∧ lCheck (lRun R B).1 = 0 then ((lRun R B).1, 0) else (zeroM, 5)
theorem sEnc_len : ∀ {l : List DStart}, (∀ s ∈ l, (1 ≤ s.1 ∧ s.1 ≤ 1048576) ∧ 1 ≤ s.2 ∧ s.2 ≤ 1048576) → (sEnc l).length ≤ 20 * l.length
  | [], _ => Nat.zero_le _
  | s :: l, h => by
    obtain ⟨⟨h1, h2⟩, h3, h4⟩ := h s (.head _)
    have := venc_len (x := s.1.toNat) (by omega)
    have := venc_len (x := s.2.toNat) (by omega)
    have := sEnc_len fun x hx => h x (.tail _ hx)
    rw [sEnc, List.length_append, List.length_append, List.length_cons]; omega
theorem csEnc_len : ∀ {l : List DCommit}, (∀ c ∈ l, cCheck c = 0) → (csEnc l).length ≤ 710 * l.length
  | [], _ => Nat.zero_le _
  | c :: l, h => by
    have h1 := cEnc_len (h c (.head _))
    have := venc_len (x := (cEnc c).length) (by omega)
    have := csEnc_len fun x hx => h x (.tail _ hx)
    rw [csEnc, List.length_append, List.length_append, List.length_cons]; omega
theorem lEnc_len {m : DMessage} (h : lCheck m = 0) : (lEnc m).length ≤ 20971600 + 3000 := by
  obtain ⟨c1, c2, c3, c4⟩ := lc_nums h
  have a1 := venc_len (x := m.1.toNat) (by omega)
  have a2 := venc_len (x := m.2.1.toNat) (by omega)
  have hb : (lBody m).length ≤ 20971550 + 2900 := by
    by_cases k1 : m.1 = 1
    · obtain ⟨⟨r1, r2⟩, ⟨r3, r4⟩, r5, r6, _⟩ := lc_hello h k1
      have b1 := venc_len (x := m.2.2.1.toNat) (by omega)
      have b2 := venc_len (x := m.2.2.2.1.toNat) (by omega)
      have b3 := venc_len (x := m.2.2.2.2.1.length) (by omega)
      have b4 := sEnc_len r6
      rw [lBody, if_pos k1]; simp only [List.length_append]; omega
    · by_cases k2 : m.1 = 2
      · obtain ⟨⟨r1, r2⟩, ⟨r3, r4⟩, r5, r6, r7, _⟩ := lCheck_ship h k2
        have b1 := venc_len (x := m.2.2.2.2.2.1.toNat) (by omega)
        have b2 := venc_len (x := m.2.2.2.2.2.2.1.toNat) (by omega)
        have b3 := venc_len (x := m.2.2.2.2.2.2.2.length) (by omega)
        have b4 := csEnc_len (cFollowsAt_ok r7)
        rw [lBody, if_neg k1, if_pos k2]; simp only [List.length_append]; omega
      · obtain ⟨⟨⟨r1, r2⟩, _⟩, _⟩ := lc_ack h k1 k2
        have b1 := venc_len (x := m.2.2.2.1.toNat) (by omega)
        rw [lBody, if_neg k1, if_neg k2]; omega
  rw [lEnc, List.length_append, List.length_append]; omega
theorem lHd_len {m : DMessage} (h : lCheck m = 0) (k : m.1 = 1) : (lHd m).length ≤ 50 := by
  obtain ⟨c1, c2, c3, c4⟩ := lc_nums h
  obtain ⟨⟨r1, r2⟩, ⟨r3, r4⟩, r5, r6, _⟩ := lc_hello h k
  have := venc_len (x := m.1.toNat) (by omega)
  have := venc_len (x := m.2.1.toNat) (by omega)
  have := venc_len (x := m.2.2.1.toNat) (by omega)
  have := venc_len (x := m.2.2.2.1.toNat) (by omega)
  have := venc_len (x := m.2.2.2.2.1.length) (by omega)
  rw [lHd]; simp only [List.length_append]; omega
theorem lHs_len {m : DMessage} (h : lCheck m = 0) (k : m.1 = 2) : (lHs m).length ≤ 50 := by
  obtain ⟨c1, c2, c3, c4⟩ := lc_nums h
  obtain ⟨⟨r1, r2⟩, ⟨r3, r4⟩, r5, r6, r7, _⟩ := lCheck_ship h k
  have := venc_len (x := m.1.toNat) (by omega)
  have := venc_len (x := m.2.1.toNat) (by omega)
  have := venc_len (x := m.2.2.2.2.2.1.toNat) (by omega)
  have := venc_len (x := m.2.2.2.2.2.2.1.toNat) (by omega)
  have := venc_len (x := m.2.2.2.2.2.2.2.length) (by omega)
  rw [lHs]; simp only [List.length_append]; omega
theorem hd_room {m : DMessage} {b : Bytes} {k : Nat} (h : lCheck m = 0) (k1 : m.1 = 1) (hb : b = lHd m ++ sEnc (m.2.2.2.2.1.take k)) : b.length ≤ 50 + 20 * k := by
  have h1 := lHd_len h k1
  have h2 := sEnc_len fun s hs => (lc_hello h k1).2.2.2.1 s (List.mem_of_mem_take (i := k) hs)
  simp only [List.length_take] at h2
  rw [hb, List.length_append]; omega
theorem hs_room {m : DMessage} {b : Bytes} {k : Nat} (h : lCheck m = 0) (k1 : m.1 = 2) (hb : b = lHs m ++ csEnc (m.2.2.2.2.2.2.2.take k)) : b.length ≤ 50 + 710 * k := by
  have h1 := lHs_len h k1
  have h2 := csEnc_len fun c hc => cFollowsAt_ok (lCheck_ship h k1).2.2.2.2.1 c (List.mem_of_mem_take (i := k) hc)
  simp only [List.length_take] at h2
  rw [hb, List.length_append]; omega
theorem ship_nums {m : DMessage} (h : lCheck m = 0) (k : m.1 = 2) : (1 ≤ m.2.2.2.2.2.1 ∧ m.2.2.2.2.2.1 ≤ 1048576) ∧ (0 ≤ m.2.2.2.2.2.2.1 ∧ m.2.2.2.2.2.2.1 ≤ 1048576) ∧ m.2.2.2.2.2.2.2.length ≤ 4 := by
  obtain ⟨r1, ⟨r3, r4⟩, r5, r6, r7, _⟩ := lCheck_ship h k
  have := lc_nums h
  exact ⟨r1, ⟨r3, by omega⟩, r6⟩
theorem start_of {m : DMessage} (h : lCheck m = 0) (k1 : m.1 = 1) {k : Nat} {s : DStart} (hs : m.2.2.2.2.1[k]? = some s) : (1 ≤ s.1 ∧ s.1 ≤ 1048576) ∧ 1 ≤ s.2 ∧ s.2 ≤ 1048576 := (lc_hello h k1).2.2.2.1 s (List.mem_of_getElem? hs)
theorem comm_of {m : DMessage} (h : lCheck m = 0) (k1 : m.1 = 2) {k : Nat} {c : DCommit} (hc : m.2.2.2.2.2.2.2[k]? = some c) : cCheck c = 0 := cFollowsAt_ok (lCheck_ship h k1).2.2.2.2.1 c (List.mem_of_getElem? hc)
theorem lEncode_len (m : DMessage) : (lEncode m).1.length ≤ 20974600 := by
  unfold lEncode
  split
  · exact lEnc_len (by assumption)
  · exact Nat.zero_le _
theorem drop_at {B : Bytes} {a b : Int} (h0 : 0 ≤ a) (h : a ≤ b) : (B.drop a.toNat).drop (b - a).toNat = B.drop b.toNat := by
  rw [List.drop_drop]; congr 1; omega
theorem dropV_zero (A : Option Addr) (l c : Nat) : dropV (.slice A l c) 0 1 = .slice A l c := by
  unfold dropV
  have : (fun x : Addr => x.add (0 * 1)) = id := by funext x; simp [Addr.add]
  simp only [Nat.sub_zero, this, Option.map_id, id]
  split <;> rfl
theorem dropV_zero2 (A : Option Addr) (l c k : Nat) : dropV (dropV (.slice A l c) k 1) 0 1 = dropV (.slice A l c) k 1 := by
  rw [show dropV (.slice A l c) k 1 = .slice (if c = k then A else A.map (·.add (k * 1))) (l - k) (c - k) from rfl, dropV_zero]
theorem add_sub_it (a b : Int) : a + b - a = b := by omega
def lComm (B : Bytes) (s : RS) : DCommit × RS :=
  let n := rNum B ((B.length : Int) - s.1) s
  if n.2.2 = true ∨ (B.length : Int) - n.2.1 < n.1 then (zC, (n.2.1, true)) else ((cDecode ((B.drop n.2.1.toNat).take n.1.toNat)).1, (n.2.1 + n.1, decide (¬ (cDecode ((B.drop n.2.1.toNat).take n.1.toNat)).2 = 0)))
theorem lComm_ok0 {B : Bytes} {s : RS} (h : rOk B s) (hB : B.length ≤ 9223372036854775807) : rOk B (lComm B s).2 ∧ (rNum B ((B.length : Int) - s.1) s).2.1 ≤ (lComm B s).2.1 ∧ s.1 ≤ (rNum B ((B.length : Int) - s.1) s).2.1 := by
  have k := rNum_ok (m := (B.length : Int) - s.1) h (by have := h.1; omega)
  unfold lComm
  dsimp only
  split
  · exact ⟨⟨k.1.1, k.1.2⟩, Int.le_refl _, k.2.2.2.2⟩
  · rename_i hb
    have hx : ¬ (B.length : Int) - (rNum B ((B.length : Int) - s.1) s).2.1 < (rNum B ((B.length : Int) - s.1) s).1 := fun q => hb (.inr q)
    obtain ⟨⟨a1, a2⟩, a3, a4, a5, a6⟩ := k
    exact ⟨⟨by simp only; omega, by simp only; omega⟩, by simp only; omega, a6⟩
section
variable {B : Bytes} {a L : Int} {f : Bool}
theorem lComm_1 (hz : L = (B.length : Int) - a) (h : (rNum B L (a, f)).2.2 = true) : lComm B (a, f) = (zC, ((rNum B L (a, f)).2.1, true)) := by
  unfold lComm; dsimp only; rw [← hz, if_pos (.inl h)]
theorem lComm_2 (hz : L = (B.length : Int) - a) (h : (rNum B L (a, f)).2.2 = false) (h2 : (B.length : Int) - (rNum B L (a, f)).2.1 < (rNum B L (a, f)).1) : lComm B (a, f) = (zC, ((rNum B L (a, f)).2.1, true)) := by
  unfold lComm; dsimp only; rw [← hz, if_pos (.inr h2)]
theorem lComm_3 (hz : L = (B.length : Int) - a) (h : (rNum B L (a, f)).2.2 = false) (h2 : ¬ (B.length : Int) - (rNum B L (a, f)).2.1 < (rNum B L (a, f)).1) :
    lComm B (a, f) = ((cDecode ((B.drop (rNum B L (a, f)).2.1.toNat).take (rNum B L (a, f)).1.toNat)).1, ((rNum B L (a, f)).2.1 + (rNum B L (a, f)).1, decide (¬ (cDecode ((B.drop (rNum B L (a, f)).2.1.toNat).take (rNum B L (a, f)).1.toNat)).2 = 0))) := by
  unfold lComm; dsimp only; rw [← hz, if_neg (by rintro (q | q); rw [h] at q; cases q; exact h2 q)]
end
section
variable {B : Bytes} {R : RS → DCommit × RS}
theorem lDecG_yes {m : DMessage} {e : RS} (h : lRun R B = (m, e)) (h1 : e.2 = false) (h2 : e.1 = (B.length : Int)) (h3 : lCheck m = 0) : lDecG R B = (m, 0) := by
  unfold lDecG; rw [h, if_pos ⟨h1, h2, h3⟩]
theorem lDecG_no {m : DMessage} {e : RS} (h : lRun R B = (m, e)) (h1 : e.2 = true ∨ ¬ e.1 = (B.length : Int) ∨ ¬ lCheck m = 0) : lDecG R B = (zeroM, 5) := by
  unfold lDecG; rw [h, if_neg]
  rintro ⟨a, b, c⟩
  rcases h1 with h1 | h1 | h1
  · rw [show (m, e).2.2 = e.2 from rfl, h1] at a; cases a
  · exact h1 b
  · exact h1 c
theorem lRun_h {l : List DStart} {e : RS} (k : (rNum B 3 (0, false)).1 = 1)
    (hl : pStarts B (rNum B 1048576 (rNum B 1048576 (rNum B 3 (rNum B 1048576 (rNum B 3 (0, false)).2).2).2).2).1.toNat (rNum B 1048576 (rNum B 1048576 (rNum B 3 (rNum B 1048576 (rNum B 3 (0, false)).2).2).2).2).2 = (l, e)) :
    lRun R B = (((rNum B 3 (0, false)).1, (rNum B 1048576 (rNum B 3 (0, false)).2).1, (rNum B 3 (rNum B 1048576 (rNum B 3 (0, false)).2).2).1, (rNum B 1048576 (rNum B 3 (rNum B 1048576 (rNum B 3 (0, false)).2).2).2).1, l, 0, 0, []), e) := by
  unfold lRun; dsimp only; rw [if_pos k, hl]
theorem lRun_s {l : List DCommit} {e : RS} (k1 : ¬ (rNum B 3 (0, false)).1 = 1) (k : (rNum B 3 (0, false)).1 = 2)
    (hl : pComms R (rNum B 4 (rNum B 1048576 (rNum B 1048576 (rNum B 1048576 (rNum B 3 (0, false)).2).2).2).2).1.toNat (rNum B 4 (rNum B 1048576 (rNum B 1048576 (rNum B 1048576 (rNum B 3 (0, false)).2).2).2).2).2 = (l, e)) :
    lRun R B = (((rNum B 3 (0, false)).1, (rNum B 1048576 (rNum B 3 (0, false)).2).1, 0, 0, [], (rNum B 1048576 (rNum B 1048576 (rNum B 3 (0, false)).2).2).1, (rNum B 1048576 (rNum B 1048576 (rNum B 1048576 (rNum B 3 (0, false)).2).2).2).1, l), e) := by
  unfold lRun; dsimp only; rw [if_neg k1, if_pos k, hl]
theorem lRun_a (k1 : ¬ (rNum B 3 (0, false)).1 = 1) (k : ¬ (rNum B 3 (0, false)).1 = 2) :
    lRun R B = (((rNum B 3 (0, false)).1, (rNum B 1048576 (rNum B 3 (0, false)).2).1, 0, (rNum B 1048576 (rNum B 1048576 (rNum B 3 (0, false)).2).2).1, [], 0, 0, []), (rNum B 1048576 (rNum B 1048576 (rNum B 3 (0, false)).2).2).2) := by
  unfold lRun; dsimp only; rw [if_neg k1, if_neg k]
theorem lRun_a' (k1 : ¬ (rNum B 3 (0, false)).1 = 1) (k : ¬ (rNum B 3 (0, false)).1 = 2) :
    lRun R B = (((rNum B 3 (0, false)).1, (rNum B 1048576 ((rNum B 3 (0, false)).2.1, (rNum B 3 (0, false)).2.2)).1, 0, (rNum B 1048576 ((rNum B 1048576 ((rNum B 3 (0, false)).2.1, (rNum B 3 (0, false)).2.2)).2.1, (rNum B 1048576 ((rNum B 3 (0, false)).2.1, (rNum B 3 (0, false)).2.2)).2.2)).1, [], 0, 0, []),
      ((rNum B 1048576 ((rNum B 1048576 ((rNum B 3 (0, false)).2.1, (rNum B 3 (0, false)).2.2)).2.1, (rNum B 1048576 ((rNum B 3 (0, false)).2.1, (rNum B 3 (0, false)).2.2)).2.2)).2.1, (rNum B 1048576 ((rNum B 1048576 ((rNum B 3 (0, false)).2.1, (rNum B 3 (0, false)).2.2)).2.1, (rNum B 1048576 ((rNum B 3 (0, false)).2.1, (rNum B 3 (0, false)).2.2)).2.2)).2.2)) := lRun_a k1 k
theorem lDecG_kind (k1 : ¬ (rNum B 3 (0, false)).1 = 1) (k2 : ¬ (rNum B 3 (0, false)).1 = 2) (k3 : ¬ (rNum B 3 (0, false)).1 = 3) : lDecG R B = (zeroM, 5) := by
  refine lDecG_no (lRun_a k1 k2) (.inr (.inr fun hc => ?_))
  have := lc_nums hc
  omega
theorem starts_step {L ss : List DStart} {e : RS} {n a : Int} {b : Bool} (h : (L, e) = (ss ++ (pStarts B n.toNat (a, b)).1, (pStarts B n.toNat (a, b)).2)) (hn : 0 < n) (hb : b = false) :
    (L, e) = ((ss ++ [(rStart B (a, b)).1]) ++ (pStarts B (n - 1).toNat (rStart B (a, b)).2).1, (pStarts B (n - 1).toNat (rStart B (a, b)).2).2) := by
  rw [h, show n.toNat = (n - 1).toNat + 1 by omega, pStarts, if_neg (by rw [hb]; simp), List.append_assoc]; rfl
theorem starts_fin {L ss : List DStart} {e : RS} {n a : Int} {b : Bool} (h : (L, e) = (ss ++ (pStarts B n.toNat (a, b)).1, (pStarts B n.toNat (a, b)).2)) (hn : n ≤ 0 ∨ b = true) : (L, e) = (ss, (a, b)) := by
  rw [h]
  cases hk : n.toNat with
  | zero => simp [pStarts]
  | succ k =>
    rcases hn with hn | hn
    · omega
    · rw [pStarts, if_pos hn]; simp
theorem comms_step {L ss : List DCommit} {e : RS} {n a : Int} {b : Bool} (h : (L, e) = (ss ++ (pComms R n.toNat (a, b)).1, (pComms R n.toNat (a, b)).2)) (hn : 0 < n) (hb : b = false) :
    (L, e) = ((ss ++ [(R (a, b)).1]) ++ (pComms R (n - 1).toNat (R (a, b)).2).1, (pComms R (n - 1).toNat (R (a, b)).2).2) := by
  rw [h, show n.toNat = (n - 1).toNat + 1 by omega, pComms, if_neg (by rw [hb]; simp), List.append_assoc]; rfl
theorem comms_fin {L ss : List DCommit} {e : RS} {n a : Int} {b : Bool} (h : (L, e) = (ss ++ (pComms R n.toNat (a, b)).1, (pComms R n.toNat (a, b)).2)) (hn : n ≤ 0 ∨ b = true) : (L, e) = (ss, (a, b)) := by
  rw [h]
  cases hk : n.toNat with
  | zero => simp [pComms]
  | succ k =>
    rcases hn with hn | hn
    · omega
    · rw [pComms, if_pos hn]; simp
end
def lDec (B : Bytes) : DMessage × Int := lDecG (lComm B) B
theorem lDecG_cases (R : RS → DCommit × RS) (B : Bytes) : (lDecG R B).2 = 0 ∧ lCheck (lDecG R B).1 = 0 ∨ lDecG R B = (zeroM, 5) := by
  unfold lDecG
  split
  · rename_i h; exact .inl ⟨rfl, h.2.2⟩
  · exact .inr rfl
theorem lDec_fits (B : Bytes) : (lDec B).1.2.2.2.2.1.length ≤ 1048576 ∧ (lDec B).1.2.2.2.2.2.2.2.length ≤ 4 ∧ ∀ c ∈ (lDec B).1.2.2.2.2.2.2.2, cCheck c = 0 := by
  rcases lDecG_cases (lComm B) B with ⟨_, h⟩ | h
  · by_cases k1 : (lDec B).1.1 = 1
    · obtain ⟨_, _, r5, _, _, _, r9⟩ := lc_hello h k1
      have r9' : (lDec B).1.2.2.2.2.2.2.2 = [] := r9
      exact ⟨r5, by rw [r9']; exact Nat.zero_le _, by rw [r9']; intro c hc; cases hc⟩
    · by_cases k2 : (lDec B).1.1 = 2
      · obtain ⟨_, _, _, r6, r7, _, _, _, r11⟩ := lCheck_ship h k2
        exact ⟨by have : (lDec B).1.2.2.2.2.1.length = 0 := r11; omega, r6, cFollowsAt_ok r7⟩
      · obtain ⟨⟨_, _, r4, _, _, r7⟩, _⟩ := lc_ack h k1 k2
        have r7' : (lDec B).1.2.2.2.2.2.2.2 = [] := List.eq_nil_of_length_eq_zero r7
        exact ⟨by have : (lDec B).1.2.2.2.2.1.length = 0 := r4; omega, by rw [r7']; exact Nat.zero_le _, by rw [r7']; intro c hc; cases hc⟩
  · unfold lDec; rw [h]
    exact ⟨Nat.zero_le _, Nat.zero_le _, fun c hc => by cases hc⟩
end
section
set_option linter.unusedVariables false
abbrev TBuf : Ty := (.sl .byte)
abbrev DBuf := (List UInt8)
instance decBuf : DecidableEq DBuf := inferInstance
theorem openO_Buf {m : Mem} {cs : List Value} {x0 : List UInt8} (h : Ow TBuf m cs x0) : ∃ (A0 : Option Addr), ∃ (c0 : Nat), ∃ (n0 : Mem), cs = [(.slice A0 x0.length c0 : Value)] ∧ Seps m [n0] ∧ Ow (.sl .byte) n0 [.slice A0 x0.length c0] x0 := by
  have z1 := h
  obtain ⟨A1, c1, rfl, _⟩ := Ow.slice1 h
  exact ⟨A1, c1, _, rfl, Seps.one (mle_refl _), z1⟩
theorem mkO_Buf {m : Mem} {n0 : Mem} (x0 : List UInt8) (hS : Seps m [n0]) {v0 : Value} (h0 : Ow (.sl .byte) n0 [v0] x0) : Ow TBuf m [v0] x0 := by
  exact (h0.up (hS.1 _ (.head _)))
theorem openP_Buf {m : Mem} {cs : List Value} {g : Nat} {x0 : List UInt8} (h : Ow (.ptr TBuf) m cs (g, x0)) : ∃ (E : TypeId), ∃ (A0 : Option Addr), ∃ (c0 : Nat), ∃ (n0 : Mem), cs = [.pointer (some ⟨g, 0, none⟩)] ∧ Seps m [mone g (.cells [(.slice A0 x0.length c0 : Value)].toArray E (0, 0)), n0] ∧ Ow (.sl .byte) n0 [.slice A0 x0.length c0] x0 := by
  obtain ⟨rfl, rc, E, m1, hd, l0, l1, h1⟩ := Ow.opnP h
  obtain ⟨A0, c0, n0, rfl, hS, f0⟩ := openO_Buf h1
  exact ⟨E, A0, c0, n0, rfl, Seps.app hd l0 l1 (Seps.one (mle_refl _)) hS, f0⟩
theorem mkP_Buf {m : Mem} {g : Nat} {E : TypeId} {n0 : Mem}{v0 : Value} (x0 : List UInt8) (hS : Seps m [mone g (.cells [v0].toArray E (0, 0)), n0]) (h0 : Ow (.sl .byte) n0 [v0] x0) : Ow (.ptr TBuf) m [.pointer (some ⟨g, 0, none⟩)] (g, x0) :=
  Ow.clsP hS fun hS => mkO_Buf x0 hS h0
end
section
set_option linter.unusedVariables false
set_option linter.unusedSimpArgs false
set_option maxRecDepth 4000
theorem fnOk13 : fnOk Try.prog 13 = true := by kernel_rfl
theorem fnOk31 : fnOk Try.prog 31 = true := by kernel_rfl
theorem fnOk33 : fnOk Try.prog 33 = true := by kernel_rfl
theorem tsl60 : tsl Try.prog 60 = some (3, 1, 8) := by kernel_rfl
theorem tz3 : tz Try.prog 3 = some [.int .i64 0] := by kernel_rfl
theorem lput_ok (W : World) {m1 : Mem} (hm : mle (m1) (wm W)) {v0 : Value} {d0 : List Int} (h0 : Rd (.sl (.int .i64)) (mout (wm W) (m1)) [v0] d0) {g1 : Nat} {d1 : DBuf} (h1 : Ow (.ptr TBuf) m1 [.pointer (some ⟨g1, 0, none⟩)] (g1, d1)) (e0 : ∀ x ∈ d0, 0 ≤ x) (e1 : d1.length + 10 * d0.length ≤ 140737488355000) : CallR Try.prog 31 [v0, .pointer (some ⟨g1, 0, none⟩)] W (m1) (fun v m' => v = .tuple #[] ∧ Ow (.ptr TBuf) m' [.pointer (some ⟨g1, 0, none⟩)] (g1, d1 ++ putAll d0)) := by
  obtain ⟨A0, c0, rfl, l0, k0⟩ := h0.slice
  simp only [maxLen] at k0
  refine CallR.ofB (n := 16) hm Try.func31 rfl rfl rfl ?_
  refine VC.rs ?_
  refine VO.mv ?_
  refine VO.y rfl (.lenS rfl tsl60) ?_
  refine VO.mv ?_
  refine VO.k5 0 1 5 6 7 ?_
  refine VC.block ?_
  refine VC.loop (G := Nat × DBuf × Mem) (fun g => [(7, Value.int .i64 ((((g.1) : Nat) : Int))), (0, Value.slice A0 (d0.length) (c0)), (1, Value.pointer (some ⟨g1, 0, none⟩)), (5, Value.slice A0 (d0.length) (c0)), (6, Value.int .i64 (((d0.length : Nat) : Int)))]) (fun g => [(0, mout (wm W) (m1)), (1, (g.2.2))]) (fun g => ((g.1) ≤ d0.length) ∧ ((g.2.1) = d1 ++ putAll (d0.take (g.1))) ∧ ((g.2.1).length ≤ d1.length + 10 * (g.1)) ∧ (Ow (.ptr TBuf) (g.2.2) [.pointer (some ⟨g1, 0, none⟩)] (g1, (g.2.1)))) (fun g => d0.length - (g.1)) (0, d1, m1) (⟨by omega, by simp [putAll], by (dsimp only; omega), h1⟩) ⟨⟨rfl, rfl, rfl, rfl, rfl, trivial⟩, fun _ h => h.sub [0, 1]⟩ ?_
  rintro ⟨k, b, b_m⟩ ⟨hk, hb, hlb, h_b⟩
  replace hk : k ≤ d0.length := hk
  replace hb : b = d1 ++ putAll (d0.take k) := hb
  replace hlb : b.length ≤ d1.length + 10 * k := hlb
  replace h_b : Ow (.ptr TBuf) b_m [.pointer (some ⟨g1, 0, none⟩)] (g1, b) := h_b
  show VC _ _ _ _ _ [(7, Value.int .i64 (((k : Nat) : Int))), (0, Value.slice A0 (d0.length) (c0)), (1, Value.pointer (some ⟨g1, 0, none⟩)), (5, Value.slice A0 (d0.length) (c0)), (6, Value.int .i64 (((d0.length : Nat) : Int)))] [(0, mout (wm W) (m1)), (1, b_m)]
  refine VC.rs ?_
  refine VO.y rfl (.lss rfl rfl) ?_
  refine VO.k6 0 1 5 6 7 8 ?_
  refine VC.seq ?_
  refine VC.cond rfl (fun hc1 => ?_) (fun hc1 => ?_)
  · -- T
    refine VC.skip ?_
    refine outN ?_
    refine VC.seq ?_
    refine VC.block ?_
    refine VC.rs ?_
    obtain ⟨x2, hx2⟩ : ∃ z_, (d0)[k]? = some z_ := ⟨_, List.getElem?_eq_getElem (by first | omega | (simp only [List.length_append, List.length_nil, List.length_cons, List.length_take, List.length_drop] at *; omega) | (have h_ := e0 _ (List.mem_of_getElem? ‹d0[k]? = some _›); omega))⟩
    obtain ⟨gg2, oo2, ec2, ea2, hce2, hre2⟩ := h0.elem hx2
    cases ea2
    obtain ⟨rfl, q2⟩ := hre2; simp only [inK] at q2
    refine VO.y rfl (.ixI k rfl rfl tsl60 rfl (by first | omega | (simp only [List.length_append, List.length_nil, List.length_cons, List.length_take, List.length_drop] at *; omega) | (have h_ := e0 _ (List.mem_of_getElem? ‹d0[k]? = some _›); omega))) ?_
    refine VO.y rfl (.ld1 0 rfl tk3 rfl hce2) ?_
    refine VO.as ?_
    refine VO.keep [0, 1] [(0, mout (wm W) (m1)), (1, b_m)] (by kernel_rfl) ?_
    refine VO.k7 0 1 4 5 6 7 8 ?_
    refine VC.reg ?_
    obtain ⟨q3_E, q3_A0, q3_c0, q3_n0, _, q3_S, q3_0⟩ := openP_Buf (x0 := b) h_b
    have q3_r0 := Rd.room (q3_0.rd (mle_refl _))
    refine VO.inv _ (fun _ h => h.parts (i := 1) rfl q3_S [105, 104]) ?_
    refine VO.y rfl (.ld1 105 rfl tk30 rfl (cellsAt_one rfl rfl)) ?_
    refine VO.mv ?_
    refine VO.y rfl (.cvI (c := ((x2).toNat : Int)) rfl ⟨_, Try.underlying3⟩ Try.underlying62 (by rw [IntWalk.u64_in _ (by first | omega | (simp only [List.length_append, List.length_nil, List.length_cons, List.length_take, List.length_drop] at *; omega) | (have h_ := e0 _ (List.mem_of_getElem? ‹d0[k]? = some _›); omega))]; first | omega | (first | omega | (simp only [List.length_append, List.length_nil, List.length_cons, List.length_take, List.length_drop] at *; omega) | (have h_ := e0 _ (List.mem_of_getElem? ‹d0[k]? = some _›); omega)))) ?_
    refine VO.callN 106 rfl fnOk32 rfl (fun W hW => vAppend_ok W (OwnL.rd (Ow.ownl q3_0 rfl mnil) (hW.at (i := 104) rfl) (mle_nil _)) ((x2).toNat) (by first | omega | (simp only [List.length_append, List.length_nil, List.length_cons, List.length_take, List.length_drop] at *; omega) | (have h_ := e0 _ (List.mem_of_getElem? ‹d0[k]? = some _›); omega)) (by first | omega | (simp only [List.length_append, List.length_nil, List.length_cons, List.length_take, List.length_drop] at *; omega) | (have h_ := e0 _ (List.mem_of_getElem? ‹d0[k]? = some _›); omega))) (fun v6 m6 hv6 => ?_)
    obtain ⟨s6_0, rfl, f6_0⟩ := hv6
    have hfa7 := venc_len (x := ((x2).toNat)) (by first | omega | exact or64 (by assumption) _)
    obtain ⟨A6_0, c6_0, eq6_0, l6_0, k6_0⟩ := f6_0.slice
    subst eq6_0
    simp only [maxLen] at k6_0
    refine VO.store (k := 1) (c' := [Value.slice A6_0 ((b ++ venc ((x2).toNat)).length) (c6_0)]) 105 rfl rfl (.inr ⟨tk30, rfl⟩) rfl rfl rfl rfl rfl ?_
    refine VO.gather (l := [mone g1 (.cells [Value.slice A6_0 ((b ++ venc ((x2).toNat)).length) (c6_0)].toArray q3_E (0, 0)), m6]) 108 [105, 106] rfl (fun hg8 => ?_)
    have ho8 : Ow (.ptr TBuf) (muns [mone g1 (.cells [Value.slice A6_0 ((b ++ venc ((x2).toNat)).length) (c6_0)].toArray q3_E (0, 0)), m6]) [.pointer (some ⟨g1, 0, none⟩)] (g1, b ++ venc ((x2).toNat)) := (mkP_Buf (b ++ venc ((x2).toNat)) hg8 (OwnL.ow (Ow.ownl f6_0 rfl mnil) rfl))
    refine VO.k7 0 1 4 5 6 7 8 ?_
    refine outBN ?_
    refine outN ?_
    refine VC.reg ?_
    refine VO.y rfl (.add (c := ((k + 1 : Nat) : Int)) rfl rfl (by omega) ⟨by first | omega | (simp only [List.length_append, List.length_nil, List.length_cons, List.length_take, List.length_drop] at *; omega) | (have h_ := e0 _ (List.mem_of_getElem? ‹d0[k]? = some _›); omega), by first | omega | (simp only [List.length_append, List.length_nil, List.length_cons, List.length_take, List.length_drop] at *; omega) | (have h_ := e0 _ (List.mem_of_getElem? ‹d0[k]? = some _›); omega)⟩) ?_
    refine VO.mv ?_
    refine VO.k7 0 1 4 5 6 7 8 ?_
    exact outN ⟨⟨k + 1, b ++ venc ((x2).toNat), muns [mone g1 (.cells [Value.slice A6_0 ((b ++ venc ((x2).toNat)).length) (c6_0)].toArray q3_E (0, 0)), m6]⟩, ⟨by omega, by exact putAll_next hb ‹d0[k]? = some _›, by (simp only [List.length_append] at *; omega), ho8⟩, by first | omega | (simp only [List.length_append, List.length_nil, List.length_cons, List.length_take, List.length_drop] at *; omega) | (have h_ := e0 _ (List.mem_of_getElem? ‹d0[k]? = some _›); omega), ⟨⟨rfl, rfl, rfl, rfl, rfl, trivial⟩, fun _ h => Inv.sub (Inv.num h 108 1 rfl) [0, 1]⟩⟩
  · -- F
    refine VC.exit ?_
    refine outE ?_
    refine outE ?_
    refine outBB ?_
    refine ⟨_, _, res_run (rs := []) rfl .nil, fun W_ hI => out_of (l := [b_m]) hI [1] rfl rfl (mle_refl _) (fun hS_ => ?_)⟩
    dsimp only [packV]
    have hm1_ : (d1 ++ putAll d0 : DBuf) = b := by first | rfl | (rw [hb, List.take_of_length_le (by omega)])
    refine ⟨?_, ?_⟩
    rotate_left
    · rw [hm1_]; exact (Ow.up h_b (hS_.1 _ (.head _)))
    all_goals (first | rfl | (simp [*]; done))
theorem lEncode_ok (W : World) {v0 : List Value} {d0 : DMessage} (h0 : Rd TMessage (wm W) v0 d0) : CallR Try.prog 11 [.agg v0.toArray] W (mnil) (fun v m' => ∃ (s0 : Value), v = .tuple #[s0, .int .i64 ((lEncode d0).2)] ∧ Ow (.sl .byte) m' [s0] ((lEncode d0).1)) := by
  obtain ⟨p0_A4, p0_c4, p0_A7, p0_c7, rfl, p0_0, p0_1, p0_2, p0_3, p0_4, p0_5, p0_6, p0_7⟩ := open_Message (x0 := d0.1) (x1 := d0.2.1) (x2 := d0.2.2.1) (x3 := d0.2.2.2.1) (x4 := d0.2.2.2.2.1) (x5 := d0.2.2.2.2.2.1) (x6 := d0.2.2.2.2.2.2.1) (x7 := d0.2.2.2.2.2.2.2) h0
  simp only [inK] at p0_0
  simp only [inK] at p0_1
  simp only [inK] at p0_2
  simp only [inK] at p0_3
  have p0_r4 := Rd.room p0_4
  simp only [inK] at p0_5
  simp only [inK] at p0_6
  have p0_r7 := Rd.room p0_7
  refine CallR.ofA (n := 97) Try.func11 rfl rfl rfl ?_
  refine VC.rs ?_
  refine VO.box (cs := [Value.int .i64 (d0.1), Value.int .i64 (d0.2.1), Value.int .u8 (d0.2.2.1), Value.int .i64 (d0.2.2.2.1), Value.slice p0_A4 (d0.2.2.2.2.1.length) (p0_c4), Value.int .i64 (d0.2.2.2.2.2.1), Value.int .i64 (d0.2.2.2.2.2.2.1), Value.slice p0_A7 (d0.2.2.2.2.2.2.2.length) (p0_c7)]) 102 rfl rfl rfl (fun g1 => ?_)
  refine VO.as ?_
  refine VO.as ?_
  refine VO.k4 0 1 2 3 ?_
  refine VC.seq ?_
  refine VC.rs ?_
  refine VO.y rfl (.ldA 102 rfl tk26 rfl (cellsAt_one rfl rfl)) ?_
  refine VO.callN 103 rfl fnOk13 rfl (fun W hW => lCheck_ok W (Rd.mono h0 (hW.at (i := 0) rfl))) (fun v3 m3 hv3 => ?_)
  subst hv3
  have hfa4 := lCheck_range d0
  refine VO.as ?_
  refine VO.k5 0 1 2 3 4 ?_
  refine VC.rs ?_
  refine VO.mv ?_
  refine VO.y rfl (.neq rfl rfl) ?_
  refine VO.keep [102, 0] [(102, mone g1 (.cells [Value.int .i64 (d0.1), Value.int .i64 (d0.2.1), Value.int .u8 (d0.2.2.1), Value.int .i64 (d0.2.2.2.1), Value.slice p0_A4 (d0.2.2.2.2.1.length) (p0_c4), Value.int .i64 (d0.2.2.2.2.2.1), Value.int .i64 (d0.2.2.2.2.2.2.1), Value.slice p0_A7 (d0.2.2.2.2.2.2.2.length) (p0_c7)].toArray 26 (0, 0))), (0, wm W)] (by kernel_rfl) ?_
  refine VO.k6 0 1 2 3 4 16 ?_
  refine VC.cond rfl (fun hc5 => ?_) (fun hc5 => ?_)
  · -- T
    refine VC.rs ?_
    refine VO.mv ?_
    refine VO.as ?_
    refine VO.as ?_
    refine VO.k6 0 1 2 3 4 16 ?_
    refine VC.ret ?_
    refine outR ?_
    refine ⟨_, _, res_run (rs := [.tmp 2, .tmp 3]) rfl (.tmp rfl (.tmp rfl .nil)), fun W_ hI => out_of (l := []) hI [] rfl rfl (mle_refl _) (fun hS_ => ?_)⟩
    dsimp only [packV]
    have he0 : ((lEncode d0).1 : Ty.Den (.sl .byte)) = [] := by first | rfl | (first | (rw [lEncode_bad (by assumption)]; done) | (rw [lEncode_hello (Decidable.not_not.1 ‹¬ ¬ lCheck d0 = 0›) (by assumption), hb, List.take_of_length_le (by omega)]; done) | (rw [lEncode_ship (Decidable.not_not.1 ‹¬ ¬ lCheck d0 = 0›) (by assumption) (by assumption), hb, List.take_of_length_le (by omega)]; done) | (rw [lEncode_ack (Decidable.not_not.1 ‹¬ ¬ lCheck d0 = 0›) (by omega) (by omega)]; simp [putAll]; done))
    refine ⟨Value.slice none (0) (0), ?_, ?_⟩
    rotate_left
    · rw [he0]; exact (Ow.nil _ _)
    all_goals (first | rfl | (first | (rw [lEncode_bad (by assumption)] <;> rfl) | (rw [lEncode_hello (Decidable.not_not.1 ‹¬ ¬ lCheck d0 = 0›) (by assumption)] <;> rfl) | (rw [lEncode_ship (Decidable.not_not.1 ‹¬ ¬ lCheck d0 = 0›) (by assumption) (by assumption)] <;> rfl) | (rw [lEncode_ack (Decidable.not_not.1 ‹¬ ¬ lCheck d0 = 0›) (by omega) (by omega)] <;> rfl)))
  · -- F
    refine VC.skip ?_
    refine outN ?_
    refine VC.rs ?_
    refine VO.alloc 107 rfl tz30 (fun g6 => ?_)
    refine VO.k7 0 1 2 3 4 5 16 ?_
    refine VC.rs ?_
    refine VO.y rfl (.mkf rfl) ?_
    refine VO.as ?_
    refine VO.k8 0 1 2 3 4 5 6 16 ?_
    refine VC.rs ?_
    refine VO.mv ?_
    refine VO.y rfl (.fa rfl tst26 rfl) ?_
    refine VO.y rfl (.ld1 102 rfl tk3 rfl (cellsAt_one rfl rfl)) ?_
    refine VO.y rfl (.fa rfl tst26 rfl) ?_
    refine VO.y rfl (.ld1 102 rfl tk3 rfl (cellsAt_one rfl rfl)) ?_
    refine VO.bsl (cs := [Value.int .i64 (d0.1), Value.int .i64 (d0.2.1)]) 109 rfl rfl tsl60 tz3 rfl rfl (fun g8 => ?_)
    have ho11 : OwnL (.int .i64) (mone g8 (.cells [Value.int .i64 (d0.1), Value.int .i64 (d0.2.1)].toArray 3 (0, 0))) mnil (Value.slice (some ⟨g8, 0, none⟩) (2) (2)) [d0.1, d0.2.1] := OwnL.lit 2 (All2c.cons (c1 := [Value.int .i64 (d0.1)]) (show Rd (.int .i64) _ [_] _ from ⟨rfl, by simp only [inK]; (first | omega | (simp only [List.length_append, List.length_nil, List.length_cons, List.length_take, List.length_drop] at *; omega) | (have n_ := lc_nums (Decidable.not_not.1 ‹¬ ¬ lCheck d0 = 0›); first | omega | (have q_ := lc_hello (Decidable.not_not.1 ‹¬ ¬ lCheck d0 = 0›) (by assumption); omega) | (have q_ := start_of (Decidable.not_not.1 ‹¬ ¬ lCheck d0 = 0›) (by assumption) ‹d0.2.2.2.2.1[k]? = some _›; omega) | (have q_ := ship_nums (Decidable.not_not.1 ‹¬ ¬ lCheck d0 = 0›) (by assumption); omega) | (have q_ := (lc_ack (Decidable.not_not.1 ‹¬ ¬ lCheck d0 = 0›) (by omega) (by omega)).1.1; omega) | (have q_ := cEnc_len (comm_of (Decidable.not_not.1 ‹¬ ¬ lCheck d0 = 0›) (by assumption) ‹d0.2.2.2.2.2.2.2[k]? = some _›); simp only [cEncode_is (comm_of (Decidable.not_not.1 ‹¬ ¬ lCheck d0 = 0›) (by assumption) ‹d0.2.2.2.2.2.2.2[k]? = some _›)] at *; omega) | (simp only [List.length_append, List.length_cons, List.length_nil] at *; omega)))⟩) (All2c.cons (c1 := [Value.int .i64 (d0.2.1)]) (show Rd (.int .i64) _ [_] _ from ⟨rfl, by simp only [inK]; (first | omega | (simp only [List.length_append, List.length_nil, List.length_cons, List.length_take, List.length_drop] at *; omega) | (have n_ := lc_nums (Decidable.not_not.1 ‹¬ ¬ lCheck d0 = 0›); first | omega | (have q_ := lc_hello (Decidable.not_not.1 ‹¬ ¬ lCheck d0 = 0›) (by assumption); omega) | (have q_ := start_of (Decidable.not_not.1 ‹¬ ¬ lCheck d0 = 0›) (by assumption) ‹d0.2.2.2.2.1[k]? = some _›; omega) | (have q_ := ship_nums (Decidable.not_not.1 ‹¬ ¬ lCheck d0 = 0›) (by assumption); omega) | (have q_ := (lc_ack (Decidable.not_not.1 ‹¬ ¬ lCheck d0 = 0›) (by omega) (by omega)).1.1; omega) | (have q_ := cEnc_len (comm_of (Decidable.not_not.1 ‹¬ ¬ lCheck d0 = 0›) (by assumption) ‹d0.2.2.2.2.2.2.2[k]? = some _›); simp only [cEncode_is (comm_of (Decidable.not_not.1 ‹¬ ¬ lCheck d0 = 0›) (by assumption) ‹d0.2.2.2.2.2.2.2[k]? = some _›)] at *; omega) | (simp only [List.length_append, List.length_cons, List.length_nil] at *; omega)))⟩) All2c.nil)) rfl rfl
    refine VO.gather (l := [mone g6 (.cells [Value.slice none (0) (0)].toArray 30 (0, 0))]) 112 [107] rfl (fun hg12 => ?_)
    have ho12 : Ow (.ptr TBuf) (muns [mone g6 (.cells [Value.slice none (0) (0)].toArray 30 (0, 0))]) [.pointer (some ⟨g6, 0, none⟩)] (g6, []) := (mkP_Buf [] (Seps.nilAt 1 hg12) (Ow.nil _ _))
    refine VO.callV 112 rfl rfl fnOk31 rfl rfl (fun W hW => lput_ok W (hW.at (i := 112) rfl) (OwnL.rd ho11 (hW.out (i := 112) (j := 109) rfl rfl) (mle_nil _)) ho12 (by intro x_ hx_; simp only [List.mem_cons, List.not_mem_nil, or_false] at hx_; have n_ := lc_nums (Decidable.not_not.1 ‹¬ ¬ lCheck d0 = 0›); first | omega | (have q_ := lc_hello (Decidable.not_not.1 ‹¬ ¬ lCheck d0 = 0›) (by assumption); omega) | (have q_ := start_of (Decidable.not_not.1 ‹¬ ¬ lCheck d0 = 0›) (by assumption) ‹d0.2.2.2.2.1[k]? = some _›; omega) | (have q_ := ship_nums (Decidable.not_not.1 ‹¬ ¬ lCheck d0 = 0›) (by assumption); omega) | (have q_ := (lc_ack (Decidable.not_not.1 ‹¬ ¬ lCheck d0 = 0›) (by omega) (by omega)).1.1; omega) | (have q_ := cEnc_len (comm_of (Decidable.not_not.1 ‹¬ ¬ lCheck d0 = 0›) (by assumption) ‹d0.2.2.2.2.2.2.2[k]? = some _›); simp only [cEncode_is (comm_of (Decidable.not_not.1 ‹¬ ¬ lCheck d0 = 0›) (by assumption) ‹d0.2.2.2.2.2.2.2[k]? = some _›)] at *; omega) | (simp only [List.length_append, List.length_cons, List.length_nil] at *; omega)) (by first | omega | (simp only [List.length_append, List.length_nil, List.length_cons, List.length_take, List.length_drop] at *; omega) | (have n_ := lc_nums (Decidable.not_not.1 ‹¬ ¬ lCheck d0 = 0›); first | omega | (have q_ := lc_hello (Decidable.not_not.1 ‹¬ ¬ lCheck d0 = 0›) (by assumption); omega) | (have q_ := start_of (Decidable.not_not.1 ‹¬ ¬ lCheck d0 = 0›) (by assumption) ‹d0.2.2.2.2.1[k]? = some _›; omega) | (have q_ := ship_nums (Decidable.not_not.1 ‹¬ ¬ lCheck d0 = 0›) (by assumption); omega) | (have q_ := (lc_ack (Decidable.not_not.1 ‹¬ ¬ lCheck d0 = 0›) (by omega) (by omega)).1.1; omega) | (have q_ := cEnc_len (comm_of (Decidable.not_not.1 ‹¬ ¬ lCheck d0 = 0›) (by assumption) ‹d0.2.2.2.2.2.2.2[k]? = some _›); simp only [cEncode_is (comm_of (Decidable.not_not.1 ‹¬ ¬ lCheck d0 = 0›) (by assumption) ‹d0.2.2.2.2.2.2.2[k]? = some _›)] at *; omega) | (simp only [List.length_append, List.length_cons, List.length_nil] at *; omega)))) (fun v10 m10 hv10 => ?_)
    obtain ⟨rfl, w10_1⟩ := hv10
    have hfa13 := (putAll_len (l := ([d0.1, d0.2.1])) (by intro x_ hx_; simp only [List.mem_cons, List.not_mem_nil, or_false] at hx_; omega))
    refine VO.keep [112, 102, 0] [(112, m10), (102, mone g1 (.cells [Value.int .i64 (d0.1), Value.int .i64 (d0.2.1), Value.int .u8 (d0.2.2.1), Value.int .i64 (d0.2.2.2.1), Value.slice p0_A4 (d0.2.2.2.2.1.length) (p0_c4), Value.int .i64 (d0.2.2.2.2.2.1), Value.int .i64 (d0.2.2.2.2.2.2.1), Value.slice p0_A7 (d0.2.2.2.2.2.2.2.length) (p0_c7)].toArray 26 (0, 0))), (0, wm W)] (by kernel_rfl) ?_
    refine VO.k8 0 1 2 3 4 5 6 16 ?_
    refine VC.seq ?_
    refine VC.rs ?_
    refine VO.y rfl (.fa rfl tst26 rfl) ?_
    refine VO.y rfl (.ld1 102 rfl tk3 rfl (cellsAt_one rfl rfl)) ?_
    refine VO.k9 0 1 2 3 4 5 6 16 27 ?_
    refine VC.block ?_
    refine VC.rs ?_
    refine VO.y rfl (.eql rfl rfl) ?_
    refine VO.as ?_
    refine VO.k10 0 1 2 3 4 5 6 16 27 28 ?_
    refine VC.cond rfl (fun hc14 => ?_) (fun hc14 => ?_)
    · -- FT
      refine VC.rs ?_
      refine VO.mv ?_
      refine VO.y rfl (.fa rfl tst26 rfl) ?_
      refine VO.y rfl (.ld1 102 rfl tk22 rfl (cellsAt_one rfl rfl)) ?_
      refine VO.y rfl (.cvI rfl ⟨_, Try.underlying22⟩ Try.underlying3 (IntWalk.i64_in _ (by first | omega | (simp only [List.length_append, List.length_nil, List.length_cons, List.length_take, List.length_drop] at *; omega) | (have n_ := lc_nums (Decidable.not_not.1 ‹¬ ¬ lCheck d0 = 0›); first | omega | (have q_ := lc_hello (Decidable.not_not.1 ‹¬ ¬ lCheck d0 = 0›) (by assumption); omega) | (have q_ := start_of (Decidable.not_not.1 ‹¬ ¬ lCheck d0 = 0›) (by assumption) ‹d0.2.2.2.2.1[k]? = some _›; omega) | (have q_ := ship_nums (Decidable.not_not.1 ‹¬ ¬ lCheck d0 = 0›) (by assumption); omega) | (have q_ := (lc_ack (Decidable.not_not.1 ‹¬ ¬ lCheck d0 = 0›) (by omega) (by omega)).1.1; omega) | (have q_ := cEnc_len (comm_of (Decidable.not_not.1 ‹¬ ¬ lCheck d0 = 0›) (by assumption) ‹d0.2.2.2.2.2.2.2[k]? = some _›); simp only [cEncode_is (comm_of (Decidable.not_not.1 ‹¬ ¬ lCheck d0 = 0›) (by assumption) ‹d0.2.2.2.2.2.2.2[k]? = some _›)] at *; omega) | (simp only [List.length_append, List.length_cons, List.length_nil] at *; omega))))) ?_
      refine VO.y rfl (.fa rfl tst26 rfl) ?_
      refine VO.y rfl (.ld1 102 rfl tk3 rfl (cellsAt_one rfl rfl)) ?_
      refine VO.y rfl (.fa rfl tst26 rfl) ?_
      refine VO.y rfl (.ld1 102 rfl tk23 rfl (cellsAt_one rfl rfl)) ?_
      refine VO.y rfl (.lenS rfl tsl23) ?_
      refine VO.bsl (cs := [Value.int .i64 (d0.2.2.1), Value.int .i64 (d0.2.2.2.1), Value.int .i64 (((d0.2.2.2.2.1.length : Nat) : Int))]) 116 rfl rfl tsl60 tz3 rfl rfl (fun g15 => ?_)
      have ho18 : OwnL (.int .i64) (mone g15 (.cells [Value.int .i64 (d0.2.2.1), Value.int .i64 (d0.2.2.2.1), Value.int .i64 (((d0.2.2.2.2.1.length : Nat) : Int))].toArray 3 (0, 0))) mnil (Value.slice (some ⟨g15, 0, none⟩) (3) (3)) [d0.2.2.1, d0.2.2.2.1, ((d0.2.2.2.2.1.length : Nat) : Int)] := OwnL.lit 3 (All2c.cons (c1 := [Value.int .i64 (d0.2.2.1)]) (show Rd (.int .i64) _ [_] _ from ⟨rfl, by simp only [inK]; (first | omega | (simp only [List.length_append, List.length_nil, List.length_cons, List.length_take, List.length_drop] at *; omega) | (have n_ := lc_nums (Decidable.not_not.1 ‹¬ ¬ lCheck d0 = 0›); first | omega | (have q_ := lc_hello (Decidable.not_not.1 ‹¬ ¬ lCheck d0 = 0›) (by assumption); omega) | (have q_ := start_of (Decidable.not_not.1 ‹¬ ¬ lCheck d0 = 0›) (by assumption) ‹d0.2.2.2.2.1[k]? = some _›; omega) | (have q_ := ship_nums (Decidable.not_not.1 ‹¬ ¬ lCheck d0 = 0›) (by assumption); omega) | (have q_ := (lc_ack (Decidable.not_not.1 ‹¬ ¬ lCheck d0 = 0›) (by omega) (by omega)).1.1; omega) | (have q_ := cEnc_len (comm_of (Decidable.not_not.1 ‹¬ ¬ lCheck d0 = 0›) (by assumption) ‹d0.2.2.2.2.2.2.2[k]? = some _›); simp only [cEncode_is (comm_of (Decidable.not_not.1 ‹¬ ¬ lCheck d0 = 0›) (by assumption) ‹d0.2.2.2.2.2.2.2[k]? = some _›)] at *; omega) | (simp only [List.length_append, List.length_cons, List.length_nil] at *; omega)))⟩) (All2c.cons (c1 := [Value.int .i64 (d0.2.2.2.1)]) (show Rd (.int .i64) _ [_] _ from ⟨rfl, by simp only [inK]; (first | omega | (simp only [List.length_append, List.length_nil, List.length_cons, List.length_take, List.length_drop] at *; omega) | (have n_ := lc_nums (Decidable.not_not.1 ‹¬ ¬ lCheck d0 = 0›); first | omega | (have q_ := lc_hello (Decidable.not_not.1 ‹¬ ¬ lCheck d0 = 0›) (by assumption); omega) | (have q_ := start_of (Decidable.not_not.1 ‹¬ ¬ lCheck d0 = 0›) (by assumption) ‹d0.2.2.2.2.1[k]? = some _›; omega) | (have q_ := ship_nums (Decidable.not_not.1 ‹¬ ¬ lCheck d0 = 0›) (by assumption); omega) | (have q_ := (lc_ack (Decidable.not_not.1 ‹¬ ¬ lCheck d0 = 0›) (by omega) (by omega)).1.1; omega) | (have q_ := cEnc_len (comm_of (Decidable.not_not.1 ‹¬ ¬ lCheck d0 = 0›) (by assumption) ‹d0.2.2.2.2.2.2.2[k]? = some _›); simp only [cEncode_is (comm_of (Decidable.not_not.1 ‹¬ ¬ lCheck d0 = 0›) (by assumption) ‹d0.2.2.2.2.2.2.2[k]? = some _›)] at *; omega) | (simp only [List.length_append, List.length_cons, List.length_nil] at *; omega)))⟩) (All2c.cons (c1 := [Value.int .i64 (((d0.2.2.2.2.1.length : Nat) : Int))]) (show Rd (.int .i64) _ [_] _ from ⟨rfl, by simp only [inK]; (first | omega | (simp only [List.length_append, List.length_nil, List.length_cons, List.length_take, List.length_drop] at *; omega) | (have n_ := lc_nums (Decidable.not_not.1 ‹¬ ¬ lCheck d0 = 0›); first | omega | (have q_ := lc_hello (Decidable.not_not.1 ‹¬ ¬ lCheck d0 = 0›) (by assumption); omega) | (have q_ := start_of (Decidable.not_not.1 ‹¬ ¬ lCheck d0 = 0›) (by assumption) ‹d0.2.2.2.2.1[k]? = some _›; omega) | (have q_ := ship_nums (Decidable.not_not.1 ‹¬ ¬ lCheck d0 = 0›) (by assumption); omega) | (have q_ := (lc_ack (Decidable.not_not.1 ‹¬ ¬ lCheck d0 = 0›) (by omega) (by omega)).1.1; omega) | (have q_ := cEnc_len (comm_of (Decidable.not_not.1 ‹¬ ¬ lCheck d0 = 0›) (by assumption) ‹d0.2.2.2.2.2.2.2[k]? = some _›); simp only [cEncode_is (comm_of (Decidable.not_not.1 ‹¬ ¬ lCheck d0 = 0›) (by assumption) ‹d0.2.2.2.2.2.2.2[k]? = some _›)] at *; omega) | (simp only [List.length_append, List.length_cons, List.length_nil] at *; omega)))⟩) All2c.nil))) rfl rfl
      refine VO.callV 112 rfl rfl fnOk31 rfl rfl (fun W hW => lput_ok W (hW.at (i := 112) rfl) (OwnL.rd ho18 (hW.out (i := 112) (j := 116) rfl rfl) (mle_nil _)) w10_1 (by intro x_ hx_; simp only [List.mem_cons, List.not_mem_nil, or_false] at hx_; have n_ := lc_nums (Decidable.not_not.1 ‹¬ ¬ lCheck d0 = 0›); first | omega | (have q_ := lc_hello (Decidable.not_not.1 ‹¬ ¬ lCheck d0 = 0›) (by assumption); omega) | (have q_ := start_of (Decidable.not_not.1 ‹¬ ¬ lCheck d0 = 0›) (by assumption) ‹d0.2.2.2.2.1[k]? = some _›; omega) | (have q_ := ship_nums (Decidable.not_not.1 ‹¬ ¬ lCheck d0 = 0›) (by assumption); omega) | (have q_ := (lc_ack (Decidable.not_not.1 ‹¬ ¬ lCheck d0 = 0›) (by omega) (by omega)).1.1; omega) | (have q_ := cEnc_len (comm_of (Decidable.not_not.1 ‹¬ ¬ lCheck d0 = 0›) (by assumption) ‹d0.2.2.2.2.2.2.2[k]? = some _›); simp only [cEncode_is (comm_of (Decidable.not_not.1 ‹¬ ¬ lCheck d0 = 0›) (by assumption) ‹d0.2.2.2.2.2.2.2[k]? = some _›)] at *; omega) | (simp only [List.length_append, List.length_cons, List.length_nil] at *; omega)) (by first | omega | (simp only [List.length_append, List.length_nil, List.length_cons, List.length_take, List.length_drop] at *; omega) | (have n_ := lc_nums (Decidable.not_not.1 ‹¬ ¬ lCheck d0 = 0›); first | omega | (have q_ := lc_hello (Decidable.not_not.1 ‹¬ ¬ lCheck d0 = 0›) (by assumption); omega) | (have q_ := start_of (Decidable.not_not.1 ‹¬ ¬ lCheck d0 = 0›) (by assumption) ‹d0.2.2.2.2.1[k]? = some _›; omega) | (have q_ := ship_nums (Decidable.not_not.1 ‹¬ ¬ lCheck d0 = 0›) (by assumption); omega) | (have q_ := (lc_ack (Decidable.not_not.1 ‹¬ ¬ lCheck d0 = 0›) (by omega) (by omega)).1.1; omega) | (have q_ := cEnc_len (comm_of (Decidable.not_not.1 ‹¬ ¬ lCheck d0 = 0›) (by assumption) ‹d0.2.2.2.2.2.2.2[k]? = some _›); simp only [cEncode_is (comm_of (Decidable.not_not.1 ‹¬ ¬ lCheck d0 = 0›) (by assumption) ‹d0.2.2.2.2.2.2.2[k]? = some _›)] at *; omega) | (simp only [List.length_append, List.length_cons, List.length_nil] at *; omega)))) (fun v17 m17 hv17 => ?_)
      obtain ⟨rfl, w17_1⟩ := hv17
      have hfa19 := (putAll_len (l := ([d0.2.2.1, d0.2.2.2.1, ((d0.2.2.2.2.1.length : Nat) : Int)])) (by intro x_ hx_; simp only [List.mem_cons, List.not_mem_nil, or_false] at hx_; omega))
      refine VO.keep [112, 102, 0] [(112, m17), (102, mone g1 (.cells [Value.int .i64 (d0.1), Value.int .i64 (d0.2.1), Value.int .u8 (d0.2.2.1), Value.int .i64 (d0.2.2.2.1), Value.slice p0_A4 (d0.2.2.2.2.1.length) (p0_c4), Value.int .i64 (d0.2.2.2.2.2.1), Value.int .i64 (d0.2.2.2.2.2.2.1), Value.slice p0_A7 (d0.2.2.2.2.2.2.2.length) (p0_c7)].toArray 26 (0, 0))), (0, wm W)] (by kernel_rfl) ?_
      refine VO.k10 0 1 2 3 4 5 6 16 27 28 ?_
      refine VC.rs ?_
      refine VO.y rfl (.fa rfl tst26 rfl) ?_
      refine VO.y rfl (.ld1 102 rfl tk23 rfl (cellsAt_one rfl rfl)) ?_
      refine VO.y rfl (.lenS rfl tsl23) ?_
      refine VO.mv ?_
      refine VO.k13 0 1 2 3 4 5 6 16 27 28 42 43 44 ?_
      refine VC.block ?_
      refine VC.loop (G := Nat × DBuf × Mem) (fun g => [(44, Value.int .i64 ((((g.1) : Nat) : Int))), (0, Value.agg [Value.int .i64 (d0.1), Value.int .i64 (d0.2.1), Value.int .u8 (d0.2.2.1), Value.int .i64 (d0.2.2.2.1), Value.slice p0_A4 (d0.2.2.2.2.1.length) (p0_c4), Value.int .i64 (d0.2.2.2.2.2.1), Value.int .i64 (d0.2.2.2.2.2.2.1), Value.slice p0_A7 (d0.2.2.2.2.2.2.2.length) (p0_c7)].toArray), (1, Value.pointer (some ⟨g1, 0, none⟩)), (2, Value.slice none (0) (0)), (3, Value.int .i64 (0)), (4, Value.int .i64 (lCheck d0)), (5, Value.pointer (some ⟨g6, 0, none⟩)), (6, Value.func (.func 31) #[] #[Value.pointer (some ⟨g6, 0, none⟩)]), (16, Value.bool (decide (¬ (lCheck d0) = 0))), (27, Value.int .i64 (d0.1)), (28, Value.bool (decide (d0.1 = 1))), (42, Value.slice p0_A4 (d0.2.2.2.2.1.length) (p0_c4)), (43, Value.int .i64 (((d0.2.2.2.2.1.length : Nat) : Int)))]) (fun g => [(112, (g.2.2)), (102, mone g1 (.cells [Value.int .i64 (d0.1), Value.int .i64 (d0.2.1), Value.int .u8 (d0.2.2.1), Value.int .i64 (d0.2.2.2.1), Value.slice p0_A4 (d0.2.2.2.2.1.length) (p0_c4), Value.int .i64 (d0.2.2.2.2.2.1), Value.int .i64 (d0.2.2.2.2.2.2.1), Value.slice p0_A7 (d0.2.2.2.2.2.2.2.length) (p0_c7)].toArray 26 (0, 0))), (0, wm W)]) (fun g => ((g.1) ≤ d0.2.2.2.2.1.length) ∧ ((g.2.1) = lHd d0 ++ sEnc (d0.2.2.2.2.1.take (g.1))) ∧ (Ow (.ptr TBuf) (g.2.2) [.pointer (some ⟨g6, 0, none⟩)] (g6, (g.2.1)))) (fun g => d0.2.2.2.2.1.length - (g.1)) (0, ([] ++ putAll ([d0.1, d0.2.1])) ++ putAll ([d0.2.2.1, d0.2.2.2.1, ((d0.2.2.2.2.1.length : Nat) : Int)]), m17) (⟨by omega, by (simp [putAll, lHd, sEnc]), w17_1⟩) ⟨⟨rfl, rfl, rfl, rfl, rfl, rfl, rfl, rfl, rfl, rfl, rfl, rfl, rfl, trivial⟩, fun _ h => h.sub [112, 102, 0]⟩ ?_
      rintro ⟨k, b, b_m⟩ ⟨hk, hb, h_b⟩
      replace hk : k ≤ d0.2.2.2.2.1.length := hk
      replace hb : b = lHd d0 ++ sEnc (d0.2.2.2.2.1.take k) := hb
      replace h_b : Ow (.ptr TBuf) b_m [.pointer (some ⟨g6, 0, none⟩)] (g6, b) := h_b
      show VC _ _ _ _ _ [(44, Value.int .i64 (((k : Nat) : Int))), (0, Value.agg [Value.int .i64 (d0.1), Value.int .i64 (d0.2.1), Value.int .u8 (d0.2.2.1), Value.int .i64 (d0.2.2.2.1), Value.slice p0_A4 (d0.2.2.2.2.1.length) (p0_c4), Value.int .i64 (d0.2.2.2.2.2.1), Value.int .i64 (d0.2.2.2.2.2.2.1), Value.slice p0_A7 (d0.2.2.2.2.2.2.2.length) (p0_c7)].toArray), (1, Value.pointer (some ⟨g1, 0, none⟩)), (2, Value.slice none (0) (0)), (3, Value.int .i64 (0)), (4, Value.int .i64 (lCheck d0)), (5, Value.pointer (some ⟨g6, 0, none⟩)), (6, Value.func (.func 31) #[] #[Value.pointer (some ⟨g6, 0, none⟩)]), (16, Value.bool (decide (¬ (lCheck d0) = 0))), (27, Value.int .i64 (d0.1)), (28, Value.bool (decide (d0.1 = 1))), (42, Value.slice p0_A4 (d0.2.2.2.2.1.length) (p0_c4)), (43, Value.int .i64 (((d0.2.2.2.2.1.length : Nat) : Int)))] [(112, b_m), (102, mone g1 (.cells [Value.int .i64 (d0.1), Value.int .i64 (d0.2.1), Value.int .u8 (d0.2.2.1), Value.int .i64 (d0.2.2.2.1), Value.slice p0_A4 (d0.2.2.2.2.1.length) (p0_c4), Value.int .i64 (d0.2.2.2.2.2.1), Value.int .i64 (d0.2.2.2.2.2.2.1), Value.slice p0_A7 (d0.2.2.2.2.2.2.2.length) (p0_c7)].toArray 26 (0, 0))), (0, wm W)]
      have hlb := hd_room (Decidable.not_not.1 ‹¬ ¬ lCheck d0 = 0›) (by assumption) hb
      have hln := (lc_hello (Decidable.not_not.1 ‹¬ ¬ lCheck d0 = 0›) (by assumption)).2.2.1
      refine VC.rs ?_
      refine VO.y rfl (.lss rfl rfl) ?_
      refine VO.k14 0 1 2 3 4 5 6 16 27 28 42 43 44 45 ?_
      refine VC.seq ?_
      refine VC.cond rfl (fun hc20 => ?_) (fun hc20 => ?_)
      · -- FTT
        refine VC.skip ?_
        refine outN ?_
        refine VC.seq ?_
        refine VC.block ?_
        refine VC.rs ?_
        obtain ⟨x21, hx21⟩ : ∃ z_, (d0.2.2.2.2.1)[k]? = some z_ := ⟨_, List.getElem?_eq_getElem (by first | omega | (simp only [List.length_append, List.length_nil, List.length_cons, List.length_take, List.length_drop] at *; omega) | (have n_ := lc_nums (Decidable.not_not.1 ‹¬ ¬ lCheck d0 = 0›); first | omega | (have q_ := lc_hello (Decidable.not_not.1 ‹¬ ¬ lCheck d0 = 0›) (by assumption); omega) | (have q_ := start_of (Decidable.not_not.1 ‹¬ ¬ lCheck d0 = 0›) (by assumption) ‹d0.2.2.2.2.1[k]? = some _›; omega) | (have q_ := ship_nums (Decidable.not_not.1 ‹¬ ¬ lCheck d0 = 0›) (by assumption); omega) | (have q_ := (lc_ack (Decidable.not_not.1 ‹¬ ¬ lCheck d0 = 0›) (by omega) (by omega)).1.1; omega) | (have q_ := cEnc_len (comm_of (Decidable.not_not.1 ‹¬ ¬ lCheck d0 = 0›) (by assumption) ‹d0.2.2.2.2.2.2.2[k]? = some _›); simp only [cEncode_is (comm_of (Decidable.not_not.1 ‹¬ ¬ lCheck d0 = 0›) (by assumption) ‹d0.2.2.2.2.2.2.2[k]? = some _›)] at *; omega) | (simp only [List.length_append, List.length_cons, List.length_nil] at *; omega)))⟩
        obtain ⟨gg21, oo21, ec21, ea21, hce21, hre21⟩ := p0_4.elem hx21
        cases ea21
        obtain ⟨rfl, q21_0, q21_1⟩ := open_Start (x0 := x21.1) (x1 := x21.2) hre21
        simp only [inK] at q21_0
        simp only [inK] at q21_1
        refine VO.y rfl (.ixI k rfl rfl tsl23 rfl (by first | omega | (simp only [List.length_append, List.length_nil, List.length_cons, List.length_take, List.length_drop] at *; omega) | (have n_ := lc_nums (Decidable.not_not.1 ‹¬ ¬ lCheck d0 = 0›); first | omega | (have q_ := lc_hello (Decidable.not_not.1 ‹¬ ¬ lCheck d0 = 0›) (by assumption); omega) | (have q_ := start_of (Decidable.not_not.1 ‹¬ ¬ lCheck d0 = 0›) (by assumption) ‹d0.2.2.2.2.1[k]? = some _›; omega) | (have q_ := ship_nums (Decidable.not_not.1 ‹¬ ¬ lCheck d0 = 0›) (by assumption); omega) | (have q_ := (lc_ack (Decidable.not_not.1 ‹¬ ¬ lCheck d0 = 0›) (by omega) (by omega)).1.1; omega) | (have q_ := cEnc_len (comm_of (Decidable.not_not.1 ‹¬ ¬ lCheck d0 = 0›) (by assumption) ‹d0.2.2.2.2.2.2.2[k]? = some _›); simp only [cEncode_is (comm_of (Decidable.not_not.1 ‹¬ ¬ lCheck d0 = 0›) (by assumption) ‹d0.2.2.2.2.2.2.2[k]? = some _›)] at *; omega) | (simp only [List.length_append, List.length_cons, List.length_nil] at *; omega)))) ?_
        refine VO.y rfl (.ldA 0 rfl tk57 rfl hce21) ?_
        refine VO.alloc 123 rfl tz57 (fun g22 => ?_)
        refine VO.store (k := 2) (c' := [Value.int .i64 (x21.1), Value.int .i64 (x21.2)]) 123 rfl rfl (.inl tk57) rfl rfl rfl rfl rfl ?_
        refine VO.keep [123, 112, 102, 0] [(123, mone g22 (.cells [Value.int .i64 (x21.1), Value.int .i64 (x21.2)].toArray 57 (0, 0))), (112, b_m), (102, mone g1 (.cells [Value.int .i64 (d0.1), Value.int .i64 (d0.2.1), Value.int .u8 (d0.2.2.1), Value.int .i64 (d0.2.2.2.1), Value.slice (some ⟨gg21, oo21, none⟩) (d0.2.2.2.2.1.length) (p0_c4), Value.int .i64 (d0.2.2.2.2.2.1), Value.int .i64 (d0.2.2.2.2.2.2.1), Value.slice p0_A7 (d0.2.2.2.2.2.2.2.length) (p0_c7)].toArray 26 (0, 0))), (0, wm W)] (by kernel_rfl) ?_
        refine VO.k15 0 1 2 3 4 5 6 8 16 27 28 42 43 44 45 ?_
        refine VC.reg ?_
        refine VO.mv ?_
        refine VO.y rfl (.fa rfl tst57 rfl) ?_
        refine VO.y rfl (.ld1 123 rfl tk3 rfl (cellsAt_one rfl rfl)) ?_
        refine VO.y rfl (.fa rfl tst57 rfl) ?_
        refine VO.y rfl (.ld1 123 rfl tk3 rfl (cellsAt_one rfl rfl)) ?_
        refine VO.bsl (cs := [Value.int .i64 (x21.1), Value.int .i64 (x21.2)]) 125 rfl rfl tsl60 tz3 rfl rfl (fun g24 => ?_)
        have ho27 : OwnL (.int .i64) (mone g24 (.cells [Value.int .i64 (x21.1), Value.int .i64 (x21.2)].toArray 3 (0, 0))) mnil (Value.slice (some ⟨g24, 0, none⟩) (2) (2)) [x21.1, x21.2] := OwnL.lit 2 (All2c.cons (c1 := [Value.int .i64 (x21.1)]) (show Rd (.int .i64) _ [_] _ from ⟨rfl, by simp only [inK]; (first | omega | (simp only [List.length_append, List.length_nil, List.length_cons, List.length_take, List.length_drop] at *; omega) | (have n_ := lc_nums (Decidable.not_not.1 ‹¬ ¬ lCheck d0 = 0›); first | omega | (have q_ := lc_hello (Decidable.not_not.1 ‹¬ ¬ lCheck d0 = 0›) (by assumption); omega) | (have q_ := start_of (Decidable.not_not.1 ‹¬ ¬ lCheck d0 = 0›) (by assumption) ‹d0.2.2.2.2.1[k]? = some _›; omega) | (have q_ := ship_nums (Decidable.not_not.1 ‹¬ ¬ lCheck d0 = 0›) (by assumption); omega) | (have q_ := (lc_ack (Decidable.not_not.1 ‹¬ ¬ lCheck d0 = 0›) (by omega) (by omega)).1.1; omega) | (have q_ := cEnc_len (comm_of (Decidable.not_not.1 ‹¬ ¬ lCheck d0 = 0›) (by assumption) ‹d0.2.2.2.2.2.2.2[k]? = some _›); simp only [cEncode_is (comm_of (Decidable.not_not.1 ‹¬ ¬ lCheck d0 = 0›) (by assumption) ‹d0.2.2.2.2.2.2.2[k]? = some _›)] at *; omega) | (simp only [List.length_append, List.length_cons, List.length_nil] at *; omega)))⟩) (All2c.cons (c1 := [Value.int .i64 (x21.2)]) (show Rd (.int .i64) _ [_] _ from ⟨rfl, by simp only [inK]; (first | omega | (simp only [List.length_append, List.length_nil, List.length_cons, List.length_take, List.length_drop] at *; omega) | (have n_ := lc_nums (Decidable.not_not.1 ‹¬ ¬ lCheck d0 = 0›); first | omega | (have q_ := lc_hello (Decidable.not_not.1 ‹¬ ¬ lCheck d0 = 0›) (by assumption); omega) | (have q_ := start_of (Decidable.not_not.1 ‹¬ ¬ lCheck d0 = 0›) (by assumption) ‹d0.2.2.2.2.1[k]? = some _›; omega) | (have q_ := ship_nums (Decidable.not_not.1 ‹¬ ¬ lCheck d0 = 0›) (by assumption); omega) | (have q_ := (lc_ack (Decidable.not_not.1 ‹¬ ¬ lCheck d0 = 0›) (by omega) (by omega)).1.1; omega) | (have q_ := cEnc_len (comm_of (Decidable.not_not.1 ‹¬ ¬ lCheck d0 = 0›) (by assumption) ‹d0.2.2.2.2.2.2.2[k]? = some _›); simp only [cEncode_is (comm_of (Decidable.not_not.1 ‹¬ ¬ lCheck d0 = 0›) (by assumption) ‹d0.2.2.2.2.2.2.2[k]? = some _›)] at *; omega) | (simp only [List.length_append, List.length_cons, List.length_nil] at *; omega)))⟩) All2c.nil)) rfl rfl
        refine VO.callV 112 rfl rfl fnOk31 rfl rfl (fun W hW => lput_ok W (hW.at (i := 112) rfl) (OwnL.rd ho27 (hW.out (i := 112) (j := 125) rfl rfl) (mle_nil _)) h_b (by intro x_ hx_; simp only [List.mem_cons, List.not_mem_nil, or_false] at hx_; have n_ := lc_nums (Decidable.not_not.1 ‹¬ ¬ lCheck d0 = 0›); first | omega | (have q_ := lc_hello (Decidable.not_not.1 ‹¬ ¬ lCheck d0 = 0›) (by assumption); omega) | (have q_ := start_of (Decidable.not_not.1 ‹¬ ¬ lCheck d0 = 0›) (by assumption) ‹d0.2.2.2.2.1[k]? = some _›; omega) | (have q_ := ship_nums (Decidable.not_not.1 ‹¬ ¬ lCheck d0 = 0›) (by assumption); omega) | (have q_ := (lc_ack (Decidable.not_not.1 ‹¬ ¬ lCheck d0 = 0›) (by omega) (by omega)).1.1; omega) | (have q_ := cEnc_len (comm_of (Decidable.not_not.1 ‹¬ ¬ lCheck d0 = 0›) (by assumption) ‹d0.2.2.2.2.2.2.2[k]? = some _›); simp only [cEncode_is (comm_of (Decidable.not_not.1 ‹¬ ¬ lCheck d0 = 0›) (by assumption) ‹d0.2.2.2.2.2.2.2[k]? = some _›)] at *; omega) | (simp only [List.length_append, List.length_cons, List.length_nil] at *; omega)) (by first | omega | (simp only [List.length_append, List.length_nil, List.length_cons, List.length_take, List.length_drop] at *; omega) | (have n_ := lc_nums (Decidable.not_not.1 ‹¬ ¬ lCheck d0 = 0›); first | omega | (have q_ := lc_hello (Decidable.not_not.1 ‹¬ ¬ lCheck d0 = 0›) (by assumption); omega) | (have q_ := start_of (Decidable.not_not.1 ‹¬ ¬ lCheck d0 = 0›) (by assumption) ‹d0.2.2.2.2.1[k]? = some _›; omega) | (have q_ := ship_nums (Decidable.not_not.1 ‹¬ ¬ lCheck d0 = 0›) (by assumption); omega) | (have q_ := (lc_ack (Decidable.not_not.1 ‹¬ ¬ lCheck d0 = 0›) (by omega) (by omega)).1.1; omega) | (have q_ := cEnc_len (comm_of (Decidable.not_not.1 ‹¬ ¬ lCheck d0 = 0›) (by assumption) ‹d0.2.2.2.2.2.2.2[k]? = some _›); simp only [cEncode_is (comm_of (Decidable.not_not.1 ‹¬ ¬ lCheck d0 = 0›) (by assumption) ‹d0.2.2.2.2.2.2.2[k]? = some _›)] at *; omega) | (simp only [List.length_append, List.length_cons, List.length_nil] at *; omega)))) (fun v26 m26 hv26 => ?_)
        obtain ⟨rfl, w26_1⟩ := hv26
        have hfa28 := (putAll_len (l := ([x21.1, x21.2])) (by intro x_ hx_; simp only [List.mem_cons, List.not_mem_nil, or_false] at hx_; omega))
        refine VO.k15 0 1 2 3 4 5 6 8 16 27 28 42 43 44 45 ?_
        refine outBN ?_
        refine outN ?_
        refine VC.reg ?_
        refine VO.y rfl (.add (c := ((k + 1 : Nat) : Int)) rfl rfl (by omega) ⟨by first | omega | (simp only [List.length_append, List.length_nil, List.length_cons, List.length_take, List.length_drop] at *; omega) | (have n_ := lc_nums (Decidable.not_not.1 ‹¬ ¬ lCheck d0 = 0›); first | omega | (have q_ := lc_hello (Decidable.not_not.1 ‹¬ ¬ lCheck d0 = 0›) (by assumption); omega) | (have q_ := start_of (Decidable.not_not.1 ‹¬ ¬ lCheck d0 = 0›) (by assumption) ‹d0.2.2.2.2.1[k]? = some _›; omega) | (have q_ := ship_nums (Decidable.not_not.1 ‹¬ ¬ lCheck d0 = 0›) (by assumption); omega) | (have q_ := (lc_ack (Decidable.not_not.1 ‹¬ ¬ lCheck d0 = 0›) (by omega) (by omega)).1.1; omega) | (have q_ := cEnc_len (comm_of (Decidable.not_not.1 ‹¬ ¬ lCheck d0 = 0›) (by assumption) ‹d0.2.2.2.2.2.2.2[k]? = some _›); simp only [cEncode_is (comm_of (Decidable.not_not.1 ‹¬ ¬ lCheck d0 = 0›) (by assumption) ‹d0.2.2.2.2.2.2.2[k]? = some _›)] at *; omega) | (simp only [List.length_append, List.length_cons, List.length_nil] at *; omega)), by first | omega | (simp only [List.length_append, List.length_nil, List.length_cons, List.length_take, List.length_drop] at *; omega) | (have n_ := lc_nums (Decidable.not_not.1 ‹¬ ¬ lCheck d0 = 0›); first | omega | (have q_ := lc_hello (Decidable.not_not.1 ‹¬ ¬ lCheck d0 = 0›) (by assumption); omega) | (have q_ := start_of (Decidable.not_not.1 ‹¬ ¬ lCheck d0 = 0›) (by assumption) ‹d0.2.2.2.2.1[k]? = some _›; omega) | (have q_ := ship_nums (Decidable.not_not.1 ‹¬ ¬ lCheck d0 = 0›) (by assumption); omega) | (have q_ := (lc_ack (Decidable.not_not.1 ‹¬ ¬ lCheck d0 = 0›) (by omega) (by omega)).1.1; omega) | (have q_ := cEnc_len (comm_of (Decidable.not_not.1 ‹¬ ¬ lCheck d0 = 0›) (by assumption) ‹d0.2.2.2.2.2.2.2[k]? = some _›); simp only [cEncode_is (comm_of (Decidable.not_not.1 ‹¬ ¬ lCheck d0 = 0›) (by assumption) ‹d0.2.2.2.2.2.2.2[k]? = some _›)] at *; omega) | (simp only [List.length_append, List.length_cons, List.length_nil] at *; omega))⟩) ?_
        refine VO.mv ?_
        refine VO.k15 0 1 2 3 4 5 6 8 16 27 28 42 43 44 45 ?_
        exact outN ⟨⟨k + 1, b ++ putAll ([x21.1, x21.2]), m26⟩, ⟨by omega, by (rw [hb, take_one ‹d0.2.2.2.2.1[k]? = some _›, sEnc_app]; simp [putAll, sEnc]), w26_1⟩, by first | omega | (simp only [List.length_append, List.length_nil, List.length_cons, List.length_take, List.length_drop] at *; omega) | (have n_ := lc_nums (Decidable.not_not.1 ‹¬ ¬ lCheck d0 = 0›); first | omega | (have q_ := lc_hello (Decidable.not_not.1 ‹¬ ¬ lCheck d0 = 0›) (by assumption); omega) | (have q_ := start_of (Decidable.not_not.1 ‹¬ ¬ lCheck d0 = 0›) (by assumption) ‹d0.2.2.2.2.1[k]? = some _›; omega) | (have q_ := ship_nums (Decidable.not_not.1 ‹¬ ¬ lCheck d0 = 0›) (by assumption); omega) | (have q_ := (lc_ack (Decidable.not_not.1 ‹¬ ¬ lCheck d0 = 0›) (by omega) (by omega)).1.1; omega) | (have q_ := cEnc_len (comm_of (Decidable.not_not.1 ‹¬ ¬ lCheck d0 = 0›) (by assumption) ‹d0.2.2.2.2.2.2.2[k]? = some _›); simp only [cEncode_is (comm_of (Decidable.not_not.1 ‹¬ ¬ lCheck d0 = 0›) (by assumption) ‹d0.2.2.2.2.2.2.2[k]? = some _›)] at *; omega) | (simp only [List.length_append, List.length_cons, List.length_nil] at *; omega)), ⟨⟨rfl, rfl, rfl, rfl, rfl, rfl, rfl, rfl, rfl, rfl, rfl, rfl, rfl, trivial⟩, fun _ h => Inv.sub h [112, 102, 0]⟩⟩
      · -- FTF
        refine VC.exit ?_
        refine outE ?_
        refine outE ?_
        refine outBB ?_
        refine outBN ?_
        refine outN ?_
        refine VC.rs ?_
        obtain ⟨q29_E, q29_A0, q29_c0, q29_n0, _, q29_S, q29_0⟩ := openP_Buf (x0 := b) h_b
        have q29_r0 := Rd.room (q29_0.rd (mle_refl _))
        refine VO.inv _ (fun _ h => h.parts (i := 112) rfl q29_S [131, 130]) ?_
        refine VO.y rfl (.ld1 131 rfl tk30 rfl (cellsAt_one rfl rfl)) ?_
        refine VO.as ?_
        refine VO.as ?_
        refine VO.keep [131, 130, 102, 0] [(131, mone g6 (.cells [Value.slice q29_A0 (b.length) (q29_c0)].toArray q29_E (0, 0))), (130, q29_n0), (102, mone g1 (.cells [Value.int .i64 (d0.1), Value.int .i64 (d0.2.1), Value.int .u8 (d0.2.2.1), Value.int .i64 (d0.2.2.2.1), Value.slice p0_A4 (d0.2.2.2.2.1.length) (p0_c4), Value.int .i64 (d0.2.2.2.2.2.1), Value.int .i64 (d0.2.2.2.2.2.2.1), Value.slice p0_A7 (d0.2.2.2.2.2.2.2.length) (p0_c7)].toArray 26 (0, 0))), (0, wm W)] (by kernel_rfl) ?_
        refine VO.k14 0 1 2 3 4 5 6 16 27 28 42 43 44 45 ?_
        refine VC.ret ?_
        refine ⟨_, _, res_run (rs := [.tmp 2, .tmp 3]) rfl (.tmp rfl (.tmp rfl .nil)), fun W_ hI => out_of (l := [q29_n0]) hI [130] rfl rfl (mle_refl _) (fun hS_ => ?_)⟩
        dsimp only [packV]
        have he0 : ((lEncode d0).1 : Ty.Den (.sl .byte)) = b := by first | rfl | (first | (rw [lEncode_bad (by assumption)]; done) | (rw [lEncode_hello (Decidable.not_not.1 ‹¬ ¬ lCheck d0 = 0›) (by assumption), hb, List.take_of_length_le (by omega)]; done) | (rw [lEncode_ship (Decidable.not_not.1 ‹¬ ¬ lCheck d0 = 0›) (by assumption) (by assumption), hb, List.take_of_length_le (by omega)]; done) | (rw [lEncode_ack (Decidable.not_not.1 ‹¬ ¬ lCheck d0 = 0›) (by omega) (by omega)]; simp [putAll]; done))
        refine ⟨Value.slice q29_A0 (b.length) (q29_c0), ?_, ?_⟩
        rotate_left
        · rw [he0]; exact (Ow.up (OwnL.ow (Ow.ownl q29_0 rfl mnil) rfl) (hS_.1 _ (.head _)))
        all_goals (first | rfl | (first | (rw [lEncode_bad (by assumption)] <;> rfl) | (rw [lEncode_hello (Decidable.not_not.1 ‹¬ ¬ lCheck d0 = 0›) (by assumption)] <;> rfl) | (rw [lEncode_ship (Decidable.not_not.1 ‹¬ ¬ lCheck d0 = 0›) (by assumption) (by assumption)] <;> rfl) | (rw [lEncode_ack (Decidable.not_not.1 ‹¬ ¬ lCheck d0 = 0›) (by omega) (by omega)] <;> rfl)))
    · -- FF
      refine VC.rs ?_
      refine VO.y rfl (.eql rfl rfl) ?_
      refine VO.as ?_
      refine VO.keep [112, 102, 0] [(112, m10), (102, mone g1 (.cells [Value.int .i64 (d0.1), Value.int .i64 (d0.2.1), Value.int .u8 (d0.2.2.1), Value.int .i64 (d0.2.2.2.1), Value.slice p0_A4 (d0.2.2.2.2.1.length) (p0_c4), Value.int .i64 (d0.2.2.2.2.2.1), Value.int .i64 (d0.2.2.2.2.2.2.1), Value.slice p0_A7 (d0.2.2.2.2.2.2.2.length) (p0_c7)].toArray 26 (0, 0))), (0, wm W)] (by kernel_rfl) ?_
      refine VO.k11 0 1 2 3 4 5 6 16 27 28 56 ?_
      refine VC.cond rfl (fun hc32 => ?_) (fun hc32 => ?_)
      · -- FFT
        refine VC.rs ?_
        refine VO.mv ?_
        refine VO.y rfl (.fa rfl tst26 rfl) ?_
        refine VO.y rfl (.ld1 102 rfl tk3 rfl (cellsAt_one rfl rfl)) ?_
        refine VO.y rfl (.fa rfl tst26 rfl) ?_
        refine VO.y rfl (.ld1 102 rfl tk3 rfl (cellsAt_one rfl rfl)) ?_
        refine VO.y rfl (.fa rfl tst26 rfl) ?_
        refine VO.y rfl (.ld1 102 rfl tk24 rfl (cellsAt_one rfl rfl)) ?_
        refine VO.y rfl (.lenS rfl tsl24) ?_
        refine VO.bsl (cs := [Value.int .i64 (d0.2.2.2.2.2.1), Value.int .i64 (d0.2.2.2.2.2.2.1), Value.int .i64 (((d0.2.2.2.2.2.2.2.length : Nat) : Int))]) 134 rfl rfl tsl60 tz3 rfl rfl (fun g33 => ?_)
        have ho36 : OwnL (.int .i64) (mone g33 (.cells [Value.int .i64 (d0.2.2.2.2.2.1), Value.int .i64 (d0.2.2.2.2.2.2.1), Value.int .i64 (((d0.2.2.2.2.2.2.2.length : Nat) : Int))].toArray 3 (0, 0))) mnil (Value.slice (some ⟨g33, 0, none⟩) (3) (3)) [d0.2.2.2.2.2.1, d0.2.2.2.2.2.2.1, ((d0.2.2.2.2.2.2.2.length : Nat) : Int)] := OwnL.lit 3 (All2c.cons (c1 := [Value.int .i64 (d0.2.2.2.2.2.1)]) (show Rd (.int .i64) _ [_] _ from ⟨rfl, by simp only [inK]; (first | omega | (simp only [List.length_append, List.length_nil, List.length_cons, List.length_take, List.length_drop] at *; omega) | (have n_ := lc_nums (Decidable.not_not.1 ‹¬ ¬ lCheck d0 = 0›); first | omega | (have q_ := lc_hello (Decidable.not_not.1 ‹¬ ¬ lCheck d0 = 0›) (by assumption); omega) | (have q_ := start_of (Decidable.not_not.1 ‹¬ ¬ lCheck d0 = 0›) (by assumption) ‹d0.2.2.2.2.1[k]? = some _›; omega) | (have q_ := ship_nums (Decidable.not_not.1 ‹¬ ¬ lCheck d0 = 0›) (by assumption); omega) | (have q_ := (lc_ack (Decidable.not_not.1 ‹¬ ¬ lCheck d0 = 0›) (by omega) (by omega)).1.1; omega) | (have q_ := cEnc_len (comm_of (Decidable.not_not.1 ‹¬ ¬ lCheck d0 = 0›) (by assumption) ‹d0.2.2.2.2.2.2.2[k]? = some _›); simp only [cEncode_is (comm_of (Decidable.not_not.1 ‹¬ ¬ lCheck d0 = 0›) (by assumption) ‹d0.2.2.2.2.2.2.2[k]? = some _›)] at *; omega) | (simp only [List.length_append, List.length_cons, List.length_nil] at *; omega)))⟩) (All2c.cons (c1 := [Value.int .i64 (d0.2.2.2.2.2.2.1)]) (show Rd (.int .i64) _ [_] _ from ⟨rfl, by simp only [inK]; (first | omega | (simp only [List.length_append, List.length_nil, List.length_cons, List.length_take, List.length_drop] at *; omega) | (have n_ := lc_nums (Decidable.not_not.1 ‹¬ ¬ lCheck d0 = 0›); first | omega | (have q_ := lc_hello (Decidable.not_not.1 ‹¬ ¬ lCheck d0 = 0›) (by assumption); omega) | (have q_ := start_of (Decidable.not_not.1 ‹¬ ¬ lCheck d0 = 0›) (by assumption) ‹d0.2.2.2.2.1[k]? = some _›; omega) | (have q_ := ship_nums (Decidable.not_not.1 ‹¬ ¬ lCheck d0 = 0›) (by assumption); omega) | (have q_ := (lc_ack (Decidable.not_not.1 ‹¬ ¬ lCheck d0 = 0›) (by omega) (by omega)).1.1; omega) | (have q_ := cEnc_len (comm_of (Decidable.not_not.1 ‹¬ ¬ lCheck d0 = 0›) (by assumption) ‹d0.2.2.2.2.2.2.2[k]? = some _›); simp only [cEncode_is (comm_of (Decidable.not_not.1 ‹¬ ¬ lCheck d0 = 0›) (by assumption) ‹d0.2.2.2.2.2.2.2[k]? = some _›)] at *; omega) | (simp only [List.length_append, List.length_cons, List.length_nil] at *; omega)))⟩) (All2c.cons (c1 := [Value.int .i64 (((d0.2.2.2.2.2.2.2.length : Nat) : Int))]) (show Rd (.int .i64) _ [_] _ from ⟨rfl, by simp only [inK]; (first | omega | (simp only [List.length_append, List.length_nil, List.length_cons, List.length_take, List.length_drop] at *; omega) | (have n_ := lc_nums (Decidable.not_not.1 ‹¬ ¬ lCheck d0 = 0›); first | omega | (have q_ := lc_hello (Decidable.not_not.1 ‹¬ ¬ lCheck d0 = 0›) (by assumption); omega) | (have q_ := start_of (Decidable.not_not.1 ‹¬ ¬ lCheck d0 = 0›) (by assumption) ‹d0.2.2.2.2.1[k]? = some _›; omega) | (have q_ := ship_nums (Decidable.not_not.1 ‹¬ ¬ lCheck d0 = 0›) (by assumption); omega) | (have q_ := (lc_ack (Decidable.not_not.1 ‹¬ ¬ lCheck d0 = 0›) (by omega) (by omega)).1.1; omega) | (have q_ := cEnc_len (comm_of (Decidable.not_not.1 ‹¬ ¬ lCheck d0 = 0›) (by assumption) ‹d0.2.2.2.2.2.2.2[k]? = some _›); simp only [cEncode_is (comm_of (Decidable.not_not.1 ‹¬ ¬ lCheck d0 = 0›) (by assumption) ‹d0.2.2.2.2.2.2.2[k]? = some _›)] at *; omega) | (simp only [List.length_append, List.length_cons, List.length_nil] at *; omega)))⟩) All2c.nil))) rfl rfl
        refine VO.callV 112 rfl rfl fnOk31 rfl rfl (fun W hW => lput_ok W (hW.at (i := 112) rfl) (OwnL.rd ho36 (hW.out (i := 112) (j := 134) rfl rfl) (mle_nil _)) w10_1 (by intro x_ hx_; simp only [List.mem_cons, List.not_mem_nil, or_false] at hx_; have n_ := lc_nums (Decidable.not_not.1 ‹¬ ¬ lCheck d0 = 0›); first | omega | (have q_ := lc_hello (Decidable.not_not.1 ‹¬ ¬ lCheck d0 = 0›) (by assumption); omega) | (have q_ := start_of (Decidable.not_not.1 ‹¬ ¬ lCheck d0 = 0›) (by assumption) ‹d0.2.2.2.2.1[k]? = some _›; omega) | (have q_ := ship_nums (Decidable.not_not.1 ‹¬ ¬ lCheck d0 = 0›) (by assumption); omega) | (have q_ := (lc_ack (Decidable.not_not.1 ‹¬ ¬ lCheck d0 = 0›) (by omega) (by omega)).1.1; omega) | (have q_ := cEnc_len (comm_of (Decidable.not_not.1 ‹¬ ¬ lCheck d0 = 0›) (by assumption) ‹d0.2.2.2.2.2.2.2[k]? = some _›); simp only [cEncode_is (comm_of (Decidable.not_not.1 ‹¬ ¬ lCheck d0 = 0›) (by assumption) ‹d0.2.2.2.2.2.2.2[k]? = some _›)] at *; omega) | (simp only [List.length_append, List.length_cons, List.length_nil] at *; omega)) (by first | omega | (simp only [List.length_append, List.length_nil, List.length_cons, List.length_take, List.length_drop] at *; omega) | (have n_ := lc_nums (Decidable.not_not.1 ‹¬ ¬ lCheck d0 = 0›); first | omega | (have q_ := lc_hello (Decidable.not_not.1 ‹¬ ¬ lCheck d0 = 0›) (by assumption); omega) | (have q_ := start_of (Decidable.not_not.1 ‹¬ ¬ lCheck d0 = 0›) (by assumption) ‹d0.2.2.2.2.1[k]? = some _›; omega) | (have q_ := ship_nums (Decidable.not_not.1 ‹¬ ¬ lCheck d0 = 0›) (by assumption); omega) | (have q_ := (lc_ack (Decidable.not_not.1 ‹¬ ¬ lCheck d0 = 0›) (by omega) (by omega)).1.1; omega) | (have q_ := cEnc_len (comm_of (Decidable.not_not.1 ‹¬ ¬ lCheck d0 = 0›) (by assumption) ‹d0.2.2.2.2.2.2.2[k]? = some _›); simp only [cEncode_is (comm_of (Decidable.not_not.1 ‹¬ ¬ lCheck d0 = 0›) (by assumption) ‹d0.2.2.2.2.2.2.2[k]? = some _›)] at *; omega) | (simp only [List.length_append, List.length_cons, List.length_nil] at *; omega)))) (fun v35 m35 hv35 => ?_)
        obtain ⟨rfl, w35_1⟩ := hv35
        have hfa37 := (putAll_len (l := ([d0.2.2.2.2.2.1, d0.2.2.2.2.2.2.1, ((d0.2.2.2.2.2.2.2.length : Nat) : Int)])) (by intro x_ hx_; simp only [List.mem_cons, List.not_mem_nil, or_false] at hx_; omega))
        refine VO.k11 0 1 2 3 4 5 6 16 27 28 56 ?_
        refine VC.rs ?_
        refine VO.y rfl (.fa rfl tst26 rfl) ?_
        refine VO.y rfl (.ld1 102 rfl tk24 rfl (cellsAt_one rfl rfl)) ?_
        refine VO.y rfl (.lenS rfl tsl24) ?_
        refine VO.mv ?_
        refine VO.k14 0 1 2 3 4 5 6 16 27 28 56 69 70 71 ?_
        refine VC.block ?_
        refine VC.loop (G := Nat × DBuf × Mem) (fun g => [(71, Value.int .i64 ((((g.1) : Nat) : Int))), (0, Value.agg [Value.int .i64 (d0.1), Value.int .i64 (d0.2.1), Value.int .u8 (d0.2.2.1), Value.int .i64 (d0.2.2.2.1), Value.slice p0_A4 (d0.2.2.2.2.1.length) (p0_c4), Value.int .i64 (d0.2.2.2.2.2.1), Value.int .i64 (d0.2.2.2.2.2.2.1), Value.slice p0_A7 (d0.2.2.2.2.2.2.2.length) (p0_c7)].toArray), (1, Value.pointer (some ⟨g1, 0, none⟩)), (2, Value.slice none (0) (0)), (3, Value.int .i64 (0)), (4, Value.int .i64 (lCheck d0)), (5, Value.pointer (some ⟨g6, 0, none⟩)), (6, Value.func (.func 31) #[] #[Value.pointer (some ⟨g6, 0, none⟩)]), (16, Value.bool (decide (¬ (lCheck d0) = 0))), (27, Value.int .i64 (d0.1)), (28, Value.bool (decide (d0.1 = 1))), (56, Value.bool (decide (d0.1 = 2))), (69, Value.slice p0_A7 (d0.2.2.2.2.2.2.2.length) (p0_c7)), (70, Value.int .i64 (((d0.2.2.2.2.2.2.2.length : Nat) : Int)))]) (fun g => [(112, (g.2.2)), (102, mone g1 (.cells [Value.int .i64 (d0.1), Value.int .i64 (d0.2.1), Value.int .u8 (d0.2.2.1), Value.int .i64 (d0.2.2.2.1), Value.slice p0_A4 (d0.2.2.2.2.1.length) (p0_c4), Value.int .i64 (d0.2.2.2.2.2.1), Value.int .i64 (d0.2.2.2.2.2.2.1), Value.slice p0_A7 (d0.2.2.2.2.2.2.2.length) (p0_c7)].toArray 26 (0, 0))), (0, wm W)]) (fun g => ((g.1) ≤ d0.2.2.2.2.2.2.2.length) ∧ ((g.2.1) = lHs d0 ++ csEnc (d0.2.2.2.2.2.2.2.take (g.1))) ∧ (Ow (.ptr TBuf) (g.2.2) [.pointer (some ⟨g6, 0, none⟩)] (g6, (g.2.1)))) (fun g => d0.2.2.2.2.2.2.2.length - (g.1)) (0, ([] ++ putAll ([d0.1, d0.2.1])) ++ putAll ([d0.2.2.2.2.2.1, d0.2.2.2.2.2.2.1, ((d0.2.2.2.2.2.2.2.length : Nat) : Int)]), m35) (⟨by omega, by (simp [putAll, lHs, csEnc]), w35_1⟩) ⟨⟨rfl, rfl, rfl, rfl, rfl, rfl, rfl, rfl, rfl, rfl, rfl, rfl, rfl, rfl, trivial⟩, fun _ h => h.sub [112, 102, 0]⟩ ?_
        rintro ⟨k, b, b_m⟩ ⟨hk, hb, h_b⟩
        replace hk : k ≤ d0.2.2.2.2.2.2.2.length := hk
        replace hb : b = lHs d0 ++ csEnc (d0.2.2.2.2.2.2.2.take k) := hb
        replace h_b : Ow (.ptr TBuf) b_m [.pointer (some ⟨g6, 0, none⟩)] (g6, b) := h_b
        show VC _ _ _ _ _ [(71, Value.int .i64 (((k : Nat) : Int))), (0, Value.agg [Value.int .i64 (d0.1), Value.int .i64 (d0.2.1), Value.int .u8 (d0.2.2.1), Value.int .i64 (d0.2.2.2.1), Value.slice p0_A4 (d0.2.2.2.2.1.length) (p0_c4), Value.int .i64 (d0.2.2.2.2.2.1), Value.int .i64 (d0.2.2.2.2.2.2.1), Value.slice p0_A7 (d0.2.2.2.2.2.2.2.length) (p0_c7)].toArray), (1, Value.pointer (some ⟨g1, 0, none⟩)), (2, Value.slice none (0) (0)), (3, Value.int .i64 (0)), (4, Value.int .i64 (lCheck d0)), (5, Value.pointer (some ⟨g6, 0, none⟩)), (6, Value.func (.func 31) #[] #[Value.pointer (some ⟨g6, 0, none⟩)]), (16, Value.bool (decide (¬ (lCheck d0) = 0))), (27, Value.int .i64 (d0.1)), (28, Value.bool (decide (d0.1 = 1))), (56, Value.bool (decide (d0.1 = 2))), (69, Value.slice p0_A7 (d0.2.2.2.2.2.2.2.length) (p0_c7)), (70, Value.int .i64 (((d0.2.2.2.2.2.2.2.length : Nat) : Int)))] [(112, b_m), (102, mone g1 (.cells [Value.int .i64 (d0.1), Value.int .i64 (d0.2.1), Value.int .u8 (d0.2.2.1), Value.int .i64 (d0.2.2.2.1), Value.slice p0_A4 (d0.2.2.2.2.1.length) (p0_c4), Value.int .i64 (d0.2.2.2.2.2.1), Value.int .i64 (d0.2.2.2.2.2.2.1), Value.slice p0_A7 (d0.2.2.2.2.2.2.2.length) (p0_c7)].toArray 26 (0, 0))), (0, wm W)]
        have hlb := hs_room (Decidable.not_not.1 ‹¬ ¬ lCheck d0 = 0›) (by assumption) hb
        have hln := (lCheck_ship (Decidable.not_not.1 ‹¬ ¬ lCheck d0 = 0›) (by assumption)).2.2.2.1
        refine VC.rs ?_
        refine VO.y rfl (.lss rfl rfl) ?_
        refine VO.keep [112, 102, 0] [(112, b_m), (102, mone g1 (.cells [Value.int .i64 (d0.1), Value.int .i64 (d0.2.1), Value.int .u8 (d0.2.2.1), Value.int .i64 (d0.2.2.2.1), Value.slice p0_A4 (d0.2.2.2.2.1.length) (p0_c4), Value.int .i64 (d0.2.2.2.2.2.1), Value.int .i64 (d0.2.2.2.2.2.2.1), Value.slice p0_A7 (d0.2.2.2.2.2.2.2.length) (p0_c7)].toArray 26 (0, 0))), (0, wm W)] (by kernel_rfl) ?_
        refine VO.k15 0 1 2 3 4 5 6 16 27 28 56 69 70 71 72 ?_
        refine VC.seq ?_
        refine VC.cond rfl (fun hc38 => ?_) (fun hc38 => ?_)
        · -- FFTT
          refine VC.skip ?_
          refine outN ?_
          refine VC.seq ?_
          refine VC.block ?_
          refine VC.rs ?_
          obtain ⟨x39, hx39⟩ : ∃ z_, (d0.2.2.2.2.2.2.2)[k]? = some z_ := ⟨_, List.getElem?_eq_getElem (by first | omega | (simp only [List.length_append, List.length_nil, List.length_cons, List.length_take, List.length_drop] at *; omega) | (have n_ := lc_nums (Decidable.not_not.1 ‹¬ ¬ lCheck d0 = 0›); first | omega | (have q_ := lc_hello (Decidable.not_not.1 ‹¬ ¬ lCheck d0 = 0›) (by assumption); omega) | (have q_ := start_of (Decidable.not_not.1 ‹¬ ¬ lCheck d0 = 0›) (by assumption) ‹d0.2.2.2.2.1[k]? = some _›; omega) | (have q_ := ship_nums (Decidable.not_not.1 ‹¬ ¬ lCheck d0 = 0›) (by assumption); omega) | (have q_ := (lc_ack (Decidable.not_not.1 ‹¬ ¬ lCheck d0 = 0›) (by omega) (by omega)).1.1; omega) | (have q_ := cEnc_len (comm_of (Decidable.not_not.1 ‹¬ ¬ lCheck d0 = 0›) (by assumption) ‹d0.2.2.2.2.2.2.2[k]? = some _›); simp only [cEncode_is (comm_of (Decidable.not_not.1 ‹¬ ¬ lCheck d0 = 0›) (by assumption) ‹d0.2.2.2.2.2.2.2[k]? = some _›)] at *; omega) | (simp only [List.length_append, List.length_cons, List.length_nil] at *; omega)))⟩
          obtain ⟨gg39, oo39, ec39, ea39, hce39, hre39⟩ := p0_7.elem hx39
          cases ea39
          obtain ⟨q39_A2, q39_c2, rfl, q39_0, q39_1, q39_2⟩ := open_Commit (x0 := x39.1) (x1 := x39.2.1) (x2 := x39.2.2) hre39
          simp only [inK] at q39_0
          simp only [inK] at q39_1
          have q39_r2 := Rd.room q39_2
          refine VO.y rfl (.ixI k rfl rfl tsl24 rfl (by first | omega | (simp only [List.length_append, List.length_nil, List.length_cons, List.length_take, List.length_drop] at *; omega) | (have n_ := lc_nums (Decidable.not_not.1 ‹¬ ¬ lCheck d0 = 0›); first | omega | (have q_ := lc_hello (Decidable.not_not.1 ‹¬ ¬ lCheck d0 = 0›) (by assumption); omega) | (have q_ := start_of (Decidable.not_not.1 ‹¬ ¬ lCheck d0 = 0›) (by assumption) ‹d0.2.2.2.2.1[k]? = some _›; omega) | (have q_ := ship_nums (Decidable.not_not.1 ‹¬ ¬ lCheck d0 = 0›) (by assumption); omega) | (have q_ := (lc_ack (Decidable.not_not.1 ‹¬ ¬ lCheck d0 = 0›) (by omega) (by omega)).1.1; omega) | (have q_ := cEnc_len (comm_of (Decidable.not_not.1 ‹¬ ¬ lCheck d0 = 0›) (by assumption) ‹d0.2.2.2.2.2.2.2[k]? = some _›); simp only [cEncode_is (comm_of (Decidable.not_not.1 ‹¬ ¬ lCheck d0 = 0›) (by assumption) ‹d0.2.2.2.2.2.2.2[k]? = some _›)] at *; omega) | (simp only [List.length_append, List.length_cons, List.length_nil] at *; omega)))) ?_
          refine VO.y rfl (.ldA 0 rfl tk43 rfl hce39) ?_
          refine VO.alloc 141 rfl tz43 (fun g40 => ?_)
          refine VO.store (k := 3) (c' := [Value.int .i64 (x39.1), Value.int .i64 (x39.2.1), Value.slice q39_A2 (x39.2.2.length) (q39_c2)]) 141 rfl rfl (.inl tk43) rfl rfl rfl rfl rfl ?_
          refine VO.k16 0 1 2 3 4 5 6 10 16 27 28 56 69 70 71 72 ?_
          refine VC.rs ?_
          refine VO.y rfl (.ldA 141 rfl tk43 rfl (cellsAt_one rfl rfl)) ?_
          refine VO.callN 142 rfl fnOk33 rfl (fun W hW => cEncode_ok_ W (Rd.mono hre39 (hW.at (i := 0) rfl))) (fun v42 m42 hv42 => ?_)
          obtain ⟨s42_0, rfl, f42_0⟩ := hv42
          have hfa43 := cEncode_len x39
          obtain ⟨A42_0, c42_0, eq42_0, l42_0, k42_0⟩ := f42_0.slice
          subst eq42_0
          simp only [maxLen] at k42_0
          refine VO.mv ?_
          refine VO.y rfl (.ext rfl rfl) ?_
          refine VO.y rfl (.ext rfl rfl) ?_
          refine VO.as ?_
          refine VO.as ?_
          refine VO.k17 0 1 2 3 4 5 6 10 11 16 27 28 56 69 70 71 72 ?_
          refine VC.rs ?_
          refine VO.mv ?_
          refine VO.mv ?_
          refine VO.y rfl (.lenS rfl tsl30) ?_
          refine VO.bsl (cs := [Value.int .i64 (((((cEncode x39).1).length : Nat) : Int))]) 145 rfl rfl tsl60 tz3 rfl rfl (fun g44 => ?_)
          have ho47 : OwnL (.int .i64) (mone g44 (.cells [Value.int .i64 (((((cEncode x39).1).length : Nat) : Int))].toArray 3 (0, 0))) mnil (Value.slice (some ⟨g44, 0, none⟩) (1) (1)) [((((cEncode x39).1).length : Nat) : Int)] := OwnL.lit 1 (All2c.cons (c1 := [Value.int .i64 (((((cEncode x39).1).length : Nat) : Int))]) (show Rd (.int .i64) _ [_] _ from ⟨rfl, by simp only [inK]; (first | omega | (simp only [List.length_append, List.length_nil, List.length_cons, List.length_take, List.length_drop] at *; omega) | (have n_ := lc_nums (Decidable.not_not.1 ‹¬ ¬ lCheck d0 = 0›); first | omega | (have q_ := lc_hello (Decidable.not_not.1 ‹¬ ¬ lCheck d0 = 0›) (by assumption); omega) | (have q_ := start_of (Decidable.not_not.1 ‹¬ ¬ lCheck d0 = 0›) (by assumption) ‹d0.2.2.2.2.1[k]? = some _›; omega) | (have q_ := ship_nums (Decidable.not_not.1 ‹¬ ¬ lCheck d0 = 0›) (by assumption); omega) | (have q_ := (lc_ack (Decidable.not_not.1 ‹¬ ¬ lCheck d0 = 0›) (by omega) (by omega)).1.1; omega) | (have q_ := cEnc_len (comm_of (Decidable.not_not.1 ‹¬ ¬ lCheck d0 = 0›) (by assumption) ‹d0.2.2.2.2.2.2.2[k]? = some _›); simp only [cEncode_is (comm_of (Decidable.not_not.1 ‹¬ ¬ lCheck d0 = 0›) (by assumption) ‹d0.2.2.2.2.2.2.2[k]? = some _›)] at *; omega) | (simp only [List.length_append, List.length_cons, List.length_nil] at *; omega)))⟩) All2c.nil) rfl rfl
          refine VO.callV 112 rfl rfl fnOk31 rfl rfl (fun W hW => lput_ok W (hW.at (i := 112) rfl) (OwnL.rd ho47 (hW.out (i := 112) (j := 145) rfl rfl) (mle_nil _)) h_b (by intro x_ hx_; simp only [List.mem_cons, List.not_mem_nil, or_false] at hx_; have n_ := lc_nums (Decidable.not_not.1 ‹¬ ¬ lCheck d0 = 0›); first | omega | (have q_ := lc_hello (Decidable.not_not.1 ‹¬ ¬ lCheck d0 = 0›) (by assumption); omega) | (have q_ := start_of (Decidable.not_not.1 ‹¬ ¬ lCheck d0 = 0›) (by assumption) ‹d0.2.2.2.2.1[k]? = some _›; omega) | (have q_ := ship_nums (Decidable.not_not.1 ‹¬ ¬ lCheck d0 = 0›) (by assumption); omega) | (have q_ := (lc_ack (Decidable.not_not.1 ‹¬ ¬ lCheck d0 = 0›) (by omega) (by omega)).1.1; omega) | (have q_ := cEnc_len (comm_of (Decidable.not_not.1 ‹¬ ¬ lCheck d0 = 0›) (by assumption) ‹d0.2.2.2.2.2.2.2[k]? = some _›); simp only [cEncode_is (comm_of (Decidable.not_not.1 ‹¬ ¬ lCheck d0 = 0›) (by assumption) ‹d0.2.2.2.2.2.2.2[k]? = some _›)] at *; omega) | (simp only [List.length_append, List.length_cons, List.length_nil] at *; omega)) (by first | omega | (simp only [List.length_append, List.length_nil, List.length_cons, List.length_take, List.length_drop] at *; omega) | (have n_ := lc_nums (Decidable.not_not.1 ‹¬ ¬ lCheck d0 = 0›); first | omega | (have q_ := lc_hello (Decidable.not_not.1 ‹¬ ¬ lCheck d0 = 0›) (by assumption); omega) | (have q_ := start_of (Decidable.not_not.1 ‹¬ ¬ lCheck d0 = 0›) (by assumption) ‹d0.2.2.2.2.1[k]? = some _›; omega) | (have q_ := ship_nums (Decidable.not_not.1 ‹¬ ¬ lCheck d0 = 0›) (by assumption); omega) | (have q_ := (lc_ack (Decidable.not_not.1 ‹¬ ¬ lCheck d0 = 0›) (by omega) (by omega)).1.1; omega) | (have q_ := cEnc_len (comm_of (Decidable.not_not.1 ‹¬ ¬ lCheck d0 = 0›) (by assumption) ‹d0.2.2.2.2.2.2.2[k]? = some _›); simp only [cEncode_is (comm_of (Decidable.not_not.1 ‹¬ ¬ lCheck d0 = 0›) (by assumption) ‹d0.2.2.2.2.2.2.2[k]? = some _›)] at *; omega) | (simp only [List.length_append, List.length_cons, List.length_nil] at *; omega)))) (fun v46 m46 hv46 => ?_)
          obtain ⟨rfl, w46_1⟩ := hv46
          have hfa48 := (putAll_len (l := ([((((cEncode x39).1).length : Nat) : Int)])) (by intro x_ hx_; simp only [List.mem_cons, List.not_mem_nil, or_false] at hx_; omega))
          refine VO.keep [112, 142, 141, 102, 0] [(112, m46), (142, m42), (141, mone g40 (.cells [Value.int .i64 (x39.1), Value.int .i64 (x39.2.1), Value.slice q39_A2 (x39.2.2.length) (q39_c2)].toArray 43 (0, 0))), (102, mone g1 (.cells [Value.int .i64 (d0.1), Value.int .i64 (d0.2.1), Value.int .u8 (d0.2.2.1), Value.int .i64 (d0.2.2.2.1), Value.slice p0_A4 (d0.2.2.2.2.1.length) (p0_c4), Value.int .i64 (d0.2.2.2.2.2.1), Value.int .i64 (d0.2.2.2.2.2.2.1), Value.slice (some ⟨gg39, oo39, none⟩) (d0.2.2.2.2.2.2.2.length) (p0_c7)].toArray 26 (0, 0))), (0, wm W)] (by kernel_rfl) ?_
          refine VO.k17 0 1 2 3 4 5 6 10 11 16 27 28 56 69 70 71 72 ?_
          refine VC.reg ?_
          obtain ⟨q49_E, q49_A0, q49_c0, q49_n0, _, q49_S, q49_0⟩ := openP_Buf (x0 := b ++ putAll ([((((cEncode x39).1).length : Nat) : Int)])) w46_1
          have q49_r0 := Rd.room (q49_0.rd (mle_refl _))
          refine VO.inv _ (fun _ h => h.parts (i := 112) rfl q49_S [151, 150]) ?_
          refine VO.y rfl (.ld1 151 rfl tk30 rfl (cellsAt_one rfl rfl)) ?_
          refine VO.mv ?_
          obtain ⟨mo52, cs52, hM52, hA52, hC52⟩ := (Ow.ownl q49_0 rfl mnil)
          obtain ⟨all52, hS52, hR52⟩ := Rd.srcI (P := Try.prog) ((OwnL.rd (Ow.ownl f42_0 rfl mnil) (mle_refl _) (mle_nil _))) Try.underlying30
          refine VO.app 150 rfl rfl rfl tsl30 tz5 rfl rfl hM52 hA52 (hS52 _ 142 rfl) hR52.nice (by simp only [maxLen]; (first | omega | (simp only [List.length_append, List.length_nil, List.length_cons, List.length_take, List.length_drop] at *; omega) | (have n_ := lc_nums (Decidable.not_not.1 ‹¬ ¬ lCheck d0 = 0›); first | omega | (have q_ := lc_hello (Decidable.not_not.1 ‹¬ ¬ lCheck d0 = 0›) (by assumption); omega) | (have q_ := start_of (Decidable.not_not.1 ‹¬ ¬ lCheck d0 = 0›) (by assumption) ‹d0.2.2.2.2.1[k]? = some _›; omega) | (have q_ := ship_nums (Decidable.not_not.1 ‹¬ ¬ lCheck d0 = 0›) (by assumption); omega) | (have q_ := (lc_ack (Decidable.not_not.1 ‹¬ ¬ lCheck d0 = 0›) (by omega) (by omega)).1.1; omega) | (have q_ := cEnc_len (comm_of (Decidable.not_not.1 ‹¬ ¬ lCheck d0 = 0›) (by assumption) ‹d0.2.2.2.2.2.2.2[k]? = some _›); simp only [cEncode_is (comm_of (Decidable.not_not.1 ‹¬ ¬ lCheck d0 = 0›) (by assumption) ‹d0.2.2.2.2.2.2.2[k]? = some _›)] at *; omega) | (simp only [List.length_append, List.length_cons, List.length_nil] at *; omega)))) (by first | omega | (simp only [List.length_append, List.length_nil, List.length_cons, List.length_take, List.length_drop] at *; omega) | (have n_ := lc_nums (Decidable.not_not.1 ‹¬ ¬ lCheck d0 = 0›); first | omega | (have q_ := lc_hello (Decidable.not_not.1 ‹¬ ¬ lCheck d0 = 0›) (by assumption); omega) | (have q_ := start_of (Decidable.not_not.1 ‹¬ ¬ lCheck d0 = 0›) (by assumption) ‹d0.2.2.2.2.1[k]? = some _›; omega) | (have q_ := ship_nums (Decidable.not_not.1 ‹¬ ¬ lCheck d0 = 0›) (by assumption); omega) | (have q_ := (lc_ack (Decidable.not_not.1 ‹¬ ¬ lCheck d0 = 0›) (by omega) (by omega)).1.1; omega) | (have q_ := cEnc_len (comm_of (Decidable.not_not.1 ‹¬ ¬ lCheck d0 = 0›) (by assumption) ‹d0.2.2.2.2.2.2.2[k]? = some _›); simp only [cEncode_is (comm_of (Decidable.not_not.1 ‹¬ ¬ lCheck d0 = 0›) (by assumption) ‹d0.2.2.2.2.2.2.2[k]? = some _›)] at *; omega) | (simp only [List.length_append, List.length_cons, List.length_nil] at *; omega))) (by decide) (fun v52 m52 hN52 => ?_)
          have ho52 : OwnL .byte m52 mnil v52 ((b ++ putAll ([((((cEncode x39).1).length : Nat) : Int)])) ++ ((cEncode x39).1)) := OwnL.more hC52 hN52 (All2c.mono hR52 fun _ _ h => Rd.flat rfl h _)
          obtain ⟨A52, c52, rfl, l52, k52⟩ := ho52.slice
          simp only [maxLen] at k52
          refine VO.store (k := 1) (c' := [Value.slice A52 (((b ++ putAll ([((((cEncode x39).1).length : Nat) : Int)])) ++ ((cEncode x39).1)).length) (c52)]) 151 rfl rfl (.inr ⟨tk30, rfl⟩) rfl rfl rfl rfl rfl ?_
          refine VO.gather (l := [mone g6 (.cells [Value.slice A52 (((b ++ putAll ([((((cEncode x39).1).length : Nat) : Int)])) ++ ((cEncode x39).1)).length) (c52)].toArray q49_E (0, 0)), m52]) 153 [151, 150] rfl (fun hg53 => ?_)
          have ho53 : Ow (.ptr TBuf) (muns [mone g6 (.cells [Value.slice A52 (((b ++ putAll ([((((cEncode x39).1).length : Nat) : Int)])) ++ ((cEncode x39).1)).length) (c52)].toArray q49_E (0, 0)), m52]) [.pointer (some ⟨g6, 0, none⟩)] (g6, (b ++ putAll ([((((cEncode x39).1).length : Nat) : Int)])) ++ ((cEncode x39).1)) := (mkP_Buf ((b ++ putAll ([((((cEncode x39).1).length : Nat) : Int)])) ++ ((cEncode x39).1)) hg53 (OwnL.ow ho52 rfl))
          refine VO.k17 0 1 2 3 4 5 6 10 11 16 27 28 56 69 70 71 72 ?_
          refine outBN ?_
          refine outN ?_
          refine VC.reg ?_
          refine VO.y rfl (.add (c := ((k + 1 : Nat) : Int)) rfl rfl (by omega) ⟨by first | omega | (simp only [List.length_append, List.length_nil, List.length_cons, List.length_take, List.length_drop] at *; omega) | (have n_ := lc_nums (Decidable.not_not.1 ‹¬ ¬ lCheck d0 = 0›); first | omega | (have q_ := lc_hello (Decidable.not_not.1 ‹¬ ¬ lCheck d0 = 0›) (by assumption); omega) | (have q_ := start_of (Decidable.not_not.1 ‹¬ ¬ lCheck d0 = 0›) (by assumption) ‹d0.2.2.2.2.1[k]? = some _›; omega) | (have q_ := ship_nums (Decidable.not_not.1 ‹¬ ¬ lCheck d0 = 0›) (by assumption); omega) | (have q_ := (lc_ack (Decidable.not_not.1 ‹¬ ¬ lCheck d0 = 0›) (by omega) (by omega)).1.1; omega) | (have q_ := cEnc_len (comm_of (Decidable.not_not.1 ‹¬ ¬ lCheck d0 = 0›) (by assumption) ‹d0.2.2.2.2.2.2.2[k]? = some _›); simp only [cEncode_is (comm_of (Decidable.not_not.1 ‹¬ ¬ lCheck d0 = 0›) (by assumption) ‹d0.2.2.2.2.2.2.2[k]? = some _›)] at *; omega) | (simp only [List.length_append, List.length_cons, List.length_nil] at *; omega)), by first | omega | (simp only [List.length_append, List.length_nil, List.length_cons, List.length_take, List.length_drop] at *; omega) | (have n_ := lc_nums (Decidable.not_not.1 ‹¬ ¬ lCheck d0 = 0›); first | omega | (have q_ := lc_hello (Decidable.not_not.1 ‹¬ ¬ lCheck d0 = 0›) (by assumption); omega) | (have q_ := start_of (Decidable.not_not.1 ‹¬ ¬ lCheck d0 = 0›) (by assumption) ‹d0.2.2.2.2.1[k]? = some _›; omega) | (have q_ := ship_nums (Decidable.not_not.1 ‹¬ ¬ lCheck d0 = 0›) (by assumption); omega) | (have q_ := (lc_ack (Decidable.not_not.1 ‹¬ ¬ lCheck d0 = 0›) (by omega) (by omega)).1.1; omega) | (have q_ := cEnc_len (comm_of (Decidable.not_not.1 ‹¬ ¬ lCheck d0 = 0›) (by assumption) ‹d0.2.2.2.2.2.2.2[k]? = some _›); simp only [cEncode_is (comm_of (Decidable.not_not.1 ‹¬ ¬ lCheck d0 = 0›) (by assumption) ‹d0.2.2.2.2.2.2.2[k]? = some _›)] at *; omega) | (simp only [List.length_append, List.length_cons, List.length_nil] at *; omega))⟩) ?_
          refine VO.mv ?_
          refine VO.k17 0 1 2 3 4 5 6 10 11 16 27 28 56 69 70 71 72 ?_
          exact outN ⟨⟨k + 1, (b ++ putAll ([((((cEncode x39).1).length : Nat) : Int)])) ++ ((cEncode x39).1), muns [mone g6 (.cells [Value.slice A52 (((b ++ putAll ([((((cEncode x39).1).length : Nat) : Int)])) ++ ((cEncode x39).1)).length) (c52)].toArray q49_E (0, 0)), m52]⟩, ⟨by omega, by (rw [hb, take_one ‹d0.2.2.2.2.2.2.2[k]? = some _›, csEnc_app]; simp [putAll, csEnc, cEncode_is (comm_of (Decidable.not_not.1 ‹¬ ¬ lCheck d0 = 0›) (by assumption) ‹d0.2.2.2.2.2.2.2[k]? = some _›)]), ho53⟩, by first | omega | (simp only [List.length_append, List.length_nil, List.length_cons, List.length_take, List.length_drop] at *; omega) | (have n_ := lc_nums (Decidable.not_not.1 ‹¬ ¬ lCheck d0 = 0›); first | omega | (have q_ := lc_hello (Decidable.not_not.1 ‹¬ ¬ lCheck d0 = 0›) (by assumption); omega) | (have q_ := start_of (Decidable.not_not.1 ‹¬ ¬ lCheck d0 = 0›) (by assumption) ‹d0.2.2.2.2.1[k]? = some _›; omega) | (have q_ := ship_nums (Decidable.not_not.1 ‹¬ ¬ lCheck d0 = 0›) (by assumption); omega) | (have q_ := (lc_ack (Decidable.not_not.1 ‹¬ ¬ lCheck d0 = 0›) (by omega) (by omega)).1.1; omega) | (have q_ := cEnc_len (comm_of (Decidable.not_not.1 ‹¬ ¬ lCheck d0 = 0›) (by assumption) ‹d0.2.2.2.2.2.2.2[k]? = some _›); simp only [cEncode_is (comm_of (Decidable.not_not.1 ‹¬ ¬ lCheck d0 = 0›) (by assumption) ‹d0.2.2.2.2.2.2.2[k]? = some _›)] at *; omega) | (simp only [List.length_append, List.length_cons, List.length_nil] at *; omega)), ⟨⟨rfl, rfl, rfl, rfl, rfl, rfl, rfl, rfl, rfl, rfl, rfl, rfl, rfl, rfl, trivial⟩, fun _ h => Inv.sub (Inv.num h 153 112 rfl) [112, 102, 0]⟩⟩
        · -- FFTF
          refine VC.exit ?_
          refine outE ?_
          refine outE ?_
          refine outBB ?_
          refine outBN ?_
          refine outN ?_
          refine VC.rs ?_
          obtain ⟨q54_E, q54_A0, q54_c0, q54_n0, _, q54_S, q54_0⟩ := openP_Buf (x0 := b) h_b
          have q54_r0 := Rd.room (q54_0.rd (mle_refl _))
          refine VO.inv _ (fun _ h => h.parts (i := 112) rfl q54_S [156, 155]) ?_
          refine VO.y rfl (.ld1 156 rfl tk30 rfl (cellsAt_one rfl rfl)) ?_
          refine VO.as ?_
          refine VO.as ?_
          refine VO.k15 0 1 2 3 4 5 6 16 27 28 56 69 70 71 72 ?_
          refine VC.ret ?_
          refine ⟨_, _, res_run (rs := [.tmp 2, .tmp 3]) rfl (.tmp rfl (.tmp rfl .nil)), fun W_ hI => out_of (l := [q54_n0]) hI [155] rfl rfl (mle_refl _) (fun hS_ => ?_)⟩
          dsimp only [packV]
          have he0 : ((lEncode d0).1 : Ty.Den (.sl .byte)) = b := by first | rfl | (first | (rw [lEncode_bad (by assumption)]; done) | (rw [lEncode_hello (Decidable.not_not.1 ‹¬ ¬ lCheck d0 = 0›) (by assumption), hb, List.take_of_length_le (by omega)]; done) | (rw [lEncode_ship (Decidable.not_not.1 ‹¬ ¬ lCheck d0 = 0›) (by assumption) (by assumption), hb, List.take_of_length_le (by omega)]; done) | (rw [lEncode_ack (Decidable.not_not.1 ‹¬ ¬ lCheck d0 = 0›) (by omega) (by omega)]; simp [putAll]; done))
          refine ⟨Value.slice q54_A0 (b.length) (q54_c0), ?_, ?_⟩
          rotate_left
          · rw [he0]; exact (Ow.up (OwnL.ow (Ow.ownl q54_0 rfl mnil) rfl) (hS_.1 _ (.head _)))
          all_goals (first | rfl | (first | (rw [lEncode_bad (by assumption)] <;> rfl) | (rw [lEncode_hello (Decidable.not_not.1 ‹¬ ¬ lCheck d0 = 0›) (by assumption)] <;> rfl) | (rw [lEncode_ship (Decidable.not_not.1 ‹¬ ¬ lCheck d0 = 0›) (by assumption) (by assumption)] <;> rfl) | (rw [lEncode_ack (Decidable.not_not.1 ‹¬ ¬ lCheck d0 = 0›) (by omega) (by omega)] <;> rfl)))
      · -- FFF
        refine VC.rs ?_
        refine VO.y rfl (.eql rfl rfl) ?_
        refine VO.as ?_
        refine VO.k12 0 1 2 3 4 5 6 16 27 28 56 89 ?_
        refine VC.cond rfl (fun hc57 => ?_) (fun hc57 => ?_)
        · -- FFFT
          refine VC.reg ?_
          refine VO.mv ?_
          refine VO.y rfl (.fa rfl tst26 rfl) ?_
          refine VO.y rfl (.ld1 102 rfl tk3 rfl (cellsAt_one rfl rfl)) ?_
          refine VO.bsl (cs := [Value.int .i64 (d0.2.2.2.1)]) 159 rfl rfl tsl60 tz3 rfl rfl (fun g58 => ?_)
          have ho61 : OwnL (.int .i64) (mone g58 (.cells [Value.int .i64 (d0.2.2.2.1)].toArray 3 (0, 0))) mnil (Value.slice (some ⟨g58, 0, none⟩) (1) (1)) [d0.2.2.2.1] := OwnL.lit 1 (All2c.cons (c1 := [Value.int .i64 (d0.2.2.2.1)]) (show Rd (.int .i64) _ [_] _ from ⟨rfl, by simp only [inK]; (first | omega | (simp only [List.length_append, List.length_nil, List.length_cons, List.length_take, List.length_drop] at *; omega) | (have n_ := lc_nums (Decidable.not_not.1 ‹¬ ¬ lCheck d0 = 0›); first | omega | (have q_ := lc_hello (Decidable.not_not.1 ‹¬ ¬ lCheck d0 = 0›) (by assumption); omega) | (have q_ := start_of (Decidable.not_not.1 ‹¬ ¬ lCheck d0 = 0›) (by assumption) ‹d0.2.2.2.2.1[k]? = some _›; omega) | (have q_ := ship_nums (Decidable.not_not.1 ‹¬ ¬ lCheck d0 = 0›) (by assumption); omega) | (have q_ := (lc_ack (Decidable.not_not.1 ‹¬ ¬ lCheck d0 = 0›) (by omega) (by omega)).1.1; omega) | (have q_ := cEnc_len (comm_of (Decidable.not_not.1 ‹¬ ¬ lCheck d0 = 0›) (by assumption) ‹d0.2.2.2.2.2.2.2[k]? = some _›); simp only [cEncode_is (comm_of (Decidable.not_not.1 ‹¬ ¬ lCheck d0 = 0›) (by assumption) ‹d0.2.2.2.2.2.2.2[k]? = some _›)] at *; omega) | (simp only [List.length_append, List.length_cons, List.length_nil] at *; omega)))⟩) All2c.nil) rfl rfl
          refine VO.callV 112 rfl rfl fnOk31 rfl rfl (fun W hW => lput_ok W (hW.at (i := 112) rfl) (OwnL.rd ho61 (hW.out (i := 112) (j := 159) rfl rfl) (mle_nil _)) w10_1 (by intro x_ hx_; simp only [List.mem_cons, List.not_mem_nil, or_false] at hx_; have n_ := lc_nums (Decidable.not_not.1 ‹¬ ¬ lCheck d0 = 0›); first | omega | (have q_ := lc_hello (Decidable.not_not.1 ‹¬ ¬ lCheck d0 = 0›) (by assumption); omega) | (have q_ := start_of (Decidable.not_not.1 ‹¬ ¬ lCheck d0 = 0›) (by assumption) ‹d0.2.2.2.2.1[k]? = some _›; omega) | (have q_ := ship_nums (Decidable.not_not.1 ‹¬ ¬ lCheck d0 = 0›) (by assumption); omega) | (have q_ := (lc_ack (Decidable.not_not.1 ‹¬ ¬ lCheck d0 = 0›) (by omega) (by omega)).1.1; omega) | (have q_ := cEnc_len (comm_of (Decidable.not_not.1 ‹¬ ¬ lCheck d0 = 0›) (by assumption) ‹d0.2.2.2.2.2.2.2[k]? = some _›); simp only [cEncode_is (comm_of (Decidable.not_not.1 ‹¬ ¬ lCheck d0 = 0›) (by assumption) ‹d0.2.2.2.2.2.2.2[k]? = some _›)] at *; omega) | (simp only [List.length_append, List.length_cons, List.length_nil] at *; omega)) (by first | omega | (simp only [List.length_append, List.length_nil, List.length_cons, List.length_take, List.length_drop] at *; omega) | (have n_ := lc_nums (Decidable.not_not.1 ‹¬ ¬ lCheck d0 = 0›); first | omega | (have q_ := lc_hello (Decidable.not_not.1 ‹¬ ¬ lCheck d0 = 0›) (by assumption); omega) | (have q_ := start_of (Decidable.not_not.1 ‹¬ ¬ lCheck d0 = 0›) (by assumption) ‹d0.2.2.2.2.1[k]? = some _›; omega) | (have q_ := ship_nums (Decidable.not_not.1 ‹¬ ¬ lCheck d0 = 0›) (by assumption); omega) | (have q_ := (lc_ack (Decidable.not_not.1 ‹¬ ¬ lCheck d0 = 0›) (by omega) (by omega)).1.1; omega) | (have q_ := cEnc_len (comm_of (Decidable.not_not.1 ‹¬ ¬ lCheck d0 = 0›) (by assumption) ‹d0.2.2.2.2.2.2.2[k]? = some _›); simp only [cEncode_is (comm_of (Decidable.not_not.1 ‹¬ ¬ lCheck d0 = 0›) (by assumption) ‹d0.2.2.2.2.2.2.2[k]? = some _›)] at *; omega) | (simp only [List.length_append, List.length_cons, List.length_nil] at *; omega)))) (fun v60 m60 hv60 => ?_)
          obtain ⟨rfl, w60_1⟩ := hv60
          have hfa62 := (putAll_len (l := ([d0.2.2.2.1])) (by intro x_ hx_; simp only [List.mem_cons, List.not_mem_nil, or_false] at hx_; omega))
          refine VO.k12 0 1 2 3 4 5 6 16 27 28 56 89 ?_
          refine outBN ?_
          refine outN ?_
          refine VC.rs ?_
          obtain ⟨q63_E, q63_A0, q63_c0, q63_n0, _, q63_S, q63_0⟩ := openP_Buf (x0 := ([] ++ putAll ([d0.1, d0.2.1])) ++ putAll ([d0.2.2.2.1])) w60_1
          have q63_r0 := Rd.room (q63_0.rd (mle_refl _))
          refine VO.inv _ (fun _ h => h.parts (i := 112) rfl q63_S [165, 164]) ?_
          refine VO.y rfl (.ld1 165 rfl tk30 rfl (cellsAt_one rfl rfl)) ?_
          refine VO.as ?_
          refine VO.as ?_
          refine VO.keep [165, 164, 102, 0] [(165, mone g6 (.cells [Value.slice q63_A0 ((([] ++ putAll ([d0.1, d0.2.1])) ++ putAll ([d0.2.2.2.1])).length) (q63_c0)].toArray q63_E (0, 0))), (164, q63_n0), (102, mone g1 (.cells [Value.int .i64 (d0.1), Value.int .i64 (d0.2.1), Value.int .u8 (d0.2.2.1), Value.int .i64 (d0.2.2.2.1), Value.slice p0_A4 (d0.2.2.2.2.1.length) (p0_c4), Value.int .i64 (d0.2.2.2.2.2.1), Value.int .i64 (d0.2.2.2.2.2.2.1), Value.slice p0_A7 (d0.2.2.2.2.2.2.2.length) (p0_c7)].toArray 26 (0, 0))), (0, wm W)] (by kernel_rfl) ?_
          refine VO.k12 0 1 2 3 4 5 6 16 27 28 56 89 ?_
          refine VC.ret ?_
          refine ⟨_, _, res_run (rs := [.tmp 2, .tmp 3]) rfl (.tmp rfl (.tmp rfl .nil)), fun W_ hI => out_of (l := [q63_n0]) hI [164] rfl rfl (mle_refl _) (fun hS_ => ?_)⟩
          dsimp only [packV]
          have he0 : ((lEncode d0).1 : Ty.Den (.sl .byte)) = ([] ++ putAll ([d0.1, d0.2.1])) ++ putAll ([d0.2.2.2.1]) := by first | rfl | (first | (rw [lEncode_bad (by assumption)]; done) | (rw [lEncode_hello (Decidable.not_not.1 ‹¬ ¬ lCheck d0 = 0›) (by assumption), hb, List.take_of_length_le (by omega)]; done) | (rw [lEncode_ship (Decidable.not_not.1 ‹¬ ¬ lCheck d0 = 0›) (by assumption) (by assumption), hb, List.take_of_length_le (by omega)]; done) | (rw [lEncode_ack (Decidable.not_not.1 ‹¬ ¬ lCheck d0 = 0›) (by omega) (by omega)]; simp [putAll]; done))
          refine ⟨Value.slice q63_A0 ((([] ++ putAll ([d0.1, d0.2.1])) ++ putAll ([d0.2.2.2.1])).length) (q63_c0), ?_, ?_⟩
          rotate_left
          · rw [he0]; exact (Ow.up (OwnL.ow (Ow.ownl q63_0 rfl mnil) rfl) (hS_.1 _ (.head _)))
          all_goals (first | rfl | (first | (rw [lEncode_bad (by assumption)] <;> rfl) | (rw [lEncode_hello (Decidable.not_not.1 ‹¬ ¬ lCheck d0 = 0›) (by assumption)] <;> rfl) | (rw [lEncode_ship (Decidable.not_not.1 ‹¬ ¬ lCheck d0 = 0›) (by assumption) (by assumption)] <;> rfl) | (rw [lEncode_ack (Decidable.not_not.1 ‹¬ ¬ lCheck d0 = 0›) (by omega) (by omega)] <;> rfl)))
        · -- FFFF
          have n_ := lc_nums (Decidable.not_not.1 ‹¬ ¬ lCheck d0 = 0›); omega
end
section
set_option linter.unusedVariables false
set_option linter.unusedSimpArgs false
set_option maxRecDepth 4000
theorem tst74 : tst Try.prog 74 = some [(0, 1), (1, 1)] := by kernel_rfl
theorem lNum_ok (W : World) {B_ : Bytes} {at_ : Int} {g0 : Nat} {E0 : TypeId} {d0 : Dletterreader} {b0_0 : Value} (hm : mle (mone g0 (.cells [(b0_0 : Value), .bool d0.2].toArray E0 (0, 0))) (wm W)) (h0_0 : Rd (.sl .byte) (mout (wm W) (mone g0 (.cells [(b0_0 : Value), .bool d0.2].toArray E0 (0, 0)))) [b0_0] d0.1) (d1 : Int) (h1 : inK .i64 d1) (e0 : d0.1 = B_.drop at_.toNat) (e1 : rOk B_ (at_, d0.2)) : CallR Try.prog 50 [.pointer (some ⟨g0, 0, none⟩), .int .i64 d1] W (mone g0 (.cells [(b0_0 : Value), .bool d0.2].toArray E0 (0, 0))) (fun v m' => v = .int .i64 ((rNum B_ d1 (at_, d0.2)).1) ∧ m' = mone g0 (.cells [(dropV b0_0 (((rNum B_ d1 (at_, d0.2)).2.1 - at_).toNat) 1 : Value), .bool ((rNum B_ d1 (at_, d0.2)).2.2)].toArray E0 (0, 0))) := by
  have e1_ := e1; obtain ⟨e1a, e1b⟩ := e1_
  obtain ⟨A0_0, c0_0, rfl, l0_0, k0_0⟩ := h0_0.slice
  simp only [maxLen] at k0_0
  have h1' := h1; simp only [inK] at h1'
  refine CallR.ofB (n := 39) hm Try.func50 rfl rfl rfl ?_
  refine VC.rs ?_
  refine VO.as ?_
  refine VO.k3 0 1 4 ?_
  refine VC.rs ?_
  refine VO.mv ?_
  refine VO.y rfl (.nilp rfl) ?_
  refine VO.y rfl (.fa rfl tst74 rfl) ?_
  refine VO.y rfl (.ld1 1 rfl tk30 rfl (cellsAt_one rfl rfl)) ?_
  refine VO.mv ?_
  refine VO.callN 101 rfl fnOk78 rfl (fun W hW => vSmall_ok W (Rd.mono h0_0 (hW.at (i := 0) rfl)) d1 bdk) (fun v1 m1 hv1 => ?_)
  subst hv1
  have hfa2 := s_bounds d0.1 d1 (by omega)
  refine VO.mv ?_
  refine VO.y rfl (.ext rfl rfl) ?_
  refine VO.y rfl (.ext rfl rfl) ?_
  refine VO.y rfl (.ext rfl rfl) ?_
  refine VO.as ?_
  refine VO.as ?_
  refine VO.as ?_
  refine VO.k6 0 1 4 5 6 7 ?_
  refine VC.seq ?_
  refine VC.rs ?_
  refine VO.mv ?_
  refine VO.y rfl (.nilp rfl) ?_
  refine VO.y rfl (.fa rfl tst74 rfl) ?_
  refine VO.y rfl (.ld1 1 rfl tk4 rfl (cellsAt_one rfl rfl)) ?_
  refine VO.mv ?_
  refine VO.decB (t := 22) rfl (fun hc3 => ?_) (fun hc3 => ?_)
  · -- T
    refine VO.gN ?_
    refine VO.gN ?_
    refine VO.y rfl (.pT rfl rfl) ?_
    refine VO.keep [0, 1] [(0, mout (wm W) (mone g0 (.cells [Value.slice A0_0 (d0.1.length) (c0_0), Value.bool d0.2].toArray E0 (0, 0)))), (1, mone g0 (.cells [Value.slice A0_0 (d0.1.length) (c0_0), Value.bool d0.2].toArray E0 (0, 0)))] (by kernel_rfl) ?_
    refine VO.k7 0 1 4 5 6 7 25 ?_
    refine VC.condT rfl ?_
    refine VC.rs ?_
    refine VO.mv ?_
    refine VO.y rfl (.nilp rfl) ?_
    refine VO.y rfl (.fa rfl tst74 rfl) ?_
    refine VO.store (k := 1) (c' := [Value.slice A0_0 (d0.1.length) (c0_0), Value.bool true]) 1 rfl rfl (.inr ⟨tk4, rfl⟩) rfl rfl rfl rfl rfl ?_
    refine VO.k7 0 1 4 5 6 7 25 ?_
    refine VC.rs ?_
    refine VO.as ?_
    refine VO.k7 0 1 4 5 6 7 25 ?_
    refine VC.ret ?_
    refine outR ?_
    refine ⟨_, _, res_run (rs := [.tmp 4]) rfl (.tmp rfl .nil), fun W_ hI => out_of (l := [mone g0 (.cells [Value.slice A0_0 (d0.1.length) (c0_0), Value.bool true].toArray E0 (0, 0))]) hI [1] rfl rfl (mle_refl _) (fun hS_ => ?_)⟩
    dsimp only [packV]
    have hm0_1 : ((rNum B_ d1 (at_, d0.2)).2.2 : Bool) = true := by first | rfl | (first | (rw [rNum_bad (by assumption)]; assumption) | (rw [rNum_none (by assumption) (by rw [← e0]; assumption)]; done) | (rw [rNum_some (by assumption) (by rw [← e0]; exact Decidable.not_not.1 (by assumption))]; symm; assumption))
    refine ⟨?_, ?_⟩
    rotate_left
    · (rw [hm0_1, muns_one]; (first | done | (first | (rw [rNum_bad (by assumption)]; simp only [Int.sub_self, Int.toNat_zero, dropV_zero]; done) | (rw [rNum_none (by assumption) (by rw [← e0]; assumption)]; simp only [Int.sub_self, Int.toNat_zero, dropV_zero]; done) | (rw [rNum_some (by assumption) (by rw [← e0]; exact Decidable.not_not.1 (by assumption))]; dsimp only; rw [show (at_ + (sN (B_.drop at_.toNat) d1 : Int) - at_).toNat = sN d0.1 d1 by rw [← e0]; omega]; simp only [dropV]; done))))
    all_goals (first | rfl | (first | (rw [rNum_bad (by assumption)] <;> rfl) | (rw [rNum_none (by assumption) (by rw [← e0]; assumption)] <;> rfl) | (rw [rNum_some (by assumption) (by rw [← e0]; exact Decidable.not_not.1 (by assumption))]; dsimp only; rw [← e0]; rfl)))
  · -- F
    refine VO.gy rfl ⟨_, rfl, rfl⟩ (.mv rfl) ?_
    refine VO.gy rfl ⟨_, rfl, rfl⟩ (.neq rfl rfl) ?_
    refine VO.y rfl (.pF rfl rfl) ?_
    refine VO.keep [0, 1] [(0, mout (wm W) (mone g0 (.cells [Value.slice A0_0 (d0.1.length) (c0_0), Value.bool d0.2].toArray E0 (0, 0)))), (1, mone g0 (.cells [Value.slice A0_0 (d0.1.length) (c0_0), Value.bool d0.2].toArray E0 (0, 0)))] (by kernel_rfl) ?_
    refine VO.k7 0 1 4 5 6 7 25 ?_
    refine VC.cond rfl (fun hc4 => ?_) (fun hc4 => ?_)
    · -- FT
      refine VC.rs ?_
      refine VO.mv ?_
      refine VO.y rfl (.nilp rfl) ?_
      refine VO.y rfl (.fa rfl tst74 rfl) ?_
      refine VO.store (k := 1) (c' := [Value.slice A0_0 (d0.1.length) (c0_0), Value.bool true]) 1 rfl rfl (.inr ⟨tk4, rfl⟩) rfl rfl rfl rfl rfl ?_
      refine VO.k7 0 1 4 5 6 7 25 ?_
      refine VC.rs ?_
      refine VO.as ?_
      refine VO.k7 0 1 4 5 6 7 25 ?_
      refine VC.ret ?_
      refine outR ?_
      refine ⟨_, _, res_run (rs := [.tmp 4]) rfl (.tmp rfl .nil), fun W_ hI => out_of (l := [mone g0 (.cells [Value.slice A0_0 (d0.1.length) (c0_0), Value.bool true].toArray E0 (0, 0))]) hI [1] rfl rfl (mle_refl _) (fun hS_ => ?_)⟩
      dsimp only [packV]
      have hm0_1 : ((rNum B_ d1 (at_, d0.2)).2.2 : Bool) = true := by first | rfl | (first | (rw [rNum_bad (by assumption)]; assumption) | (rw [rNum_none (by assumption) (by rw [← e0]; assumption)]; done) | (rw [rNum_some (by assumption) (by rw [← e0]; exact Decidable.not_not.1 (by assumption))]; symm; assumption))
      refine ⟨?_, ?_⟩
      rotate_left
      · (rw [hm0_1, muns_one]; (first | done | (first | (rw [rNum_bad (by assumption)]; simp only [Int.sub_self, Int.toNat_zero, dropV_zero]; done) | (rw [rNum_none (by assumption) (by rw [← e0]; assumption)]; simp only [Int.sub_self, Int.toNat_zero, dropV_zero]; done) | (rw [rNum_some (by assumption) (by rw [← e0]; exact Decidable.not_not.1 (by assumption))]; dsimp only; rw [show (at_ + (sN (B_.drop at_.toNat) d1 : Int) - at_).toNat = sN d0.1 d1 by rw [← e0]; omega]; simp only [dropV]; done))))
      all_goals (first | rfl | (first | (rw [rNum_bad (by assumption)] <;> rfl) | (rw [rNum_none (by assumption) (by rw [← e0]; assumption)] <;> rfl) | (rw [rNum_some (by assumption) (by rw [← e0]; exact Decidable.not_not.1 (by assumption))]; dsimp only; rw [← e0]; rfl)))
    · -- FF
      refine VC.skip ?_
      refine outN ?_
      refine VC.rs ?_
      refine VO.mv ?_
      refine VO.mv ?_
      refine VO.y rfl (.nilp rfl) ?_
      refine VO.y rfl (.fa rfl tst74 rfl) ?_
      refine VO.y rfl (.ld1 1 rfl tk30 rfl (cellsAt_one rfl rfl)) ?_
      refine VO.mv ?_
      obtain ⟨A5, hA5, hs5⟩ := h0_0.drop 1 (sN d0.1 d1) rfl bd
      refine VO.y rfl (.slLI (sN d0.1 d1) A5 rfl rfl tsl30 rfl hA5 bd) ?_
      refine VO.y rfl (.nilp rfl) ?_
      refine VO.y rfl (.fa rfl tst74 rfl) ?_
      refine VO.store (k := 1) (c' := [Value.slice A5 (d0.1.length - (sN d0.1 d1)) (c0_0 - (sN d0.1 d1)), Value.bool d0.2]) 1 rfl rfl (.inr ⟨tk30, rfl⟩) rfl rfl rfl rfl rfl ?_
      refine VO.k7 0 1 4 5 6 7 25 ?_
      refine VC.rs ?_
      refine VO.mv ?_
      refine VO.as ?_
      refine VO.k7 0 1 4 5 6 7 25 ?_
      refine VC.ret ?_
      refine ⟨_, _, res_run (rs := [.tmp 4]) rfl (.tmp rfl .nil), fun W_ hI => out_of (l := [mone g0 (.cells [Value.slice A5 (d0.1.length - (sN d0.1 d1)) (c0_0 - (sN d0.1 d1)), Value.bool d0.2].toArray E0 (0, 0))]) hI [1] rfl rfl (mle_refl _) (fun hS_ => ?_)⟩
      dsimp only [packV]
      have hm0_1 : ((rNum B_ d1 (at_, d0.2)).2.2 : Bool) = d0.2 := by first | rfl | (first | (rw [rNum_bad (by assumption)]; assumption) | (rw [rNum_none (by assumption) (by rw [← e0]; assumption)]; done) | (rw [rNum_some (by assumption) (by rw [← e0]; exact Decidable.not_not.1 (by assumption))]; symm; assumption))
      refine ⟨?_, ?_⟩
      rotate_left
      · (rw [hm0_1, muns_one]; (first | done | (first | (rw [rNum_bad (by assumption)]; simp only [Int.sub_self, Int.toNat_zero, dropV_zero]; done) | (rw [rNum_none (by assumption) (by rw [← e0]; assumption)]; simp only [Int.sub_self, Int.toNat_zero, dropV_zero]; done) | (rw [rNum_some (by assumption) (by rw [← e0]; exact Decidable.not_not.1 (by assumption))]; dsimp only; rw [show (at_ + (sN (B_.drop at_.toNat) d1 : Int) - at_).toNat = sN d0.1 d1 by rw [← e0]; omega]; simp only [dropV, hA5]; done))))
      all_goals (first | rfl | (first | (rw [rNum_bad (by assumption)] <;> rfl) | (rw [rNum_none (by assumption) (by rw [← e0]; assumption)] <;> rfl) | (rw [rNum_some (by assumption) (by rw [← e0]; exact Decidable.not_not.1 (by assumption))]; dsimp only; rw [← e0]; rfl)))
end
section
set_option linter.unusedVariables false
set_option linter.unusedSimpArgs false
set_option maxRecDepth 4000
theorem fnOk50 : fnOk Try.prog 50 = true := by kernel_rfl
theorem fnOk79 : fnOk Try.prog 79 = true := by kernel_rfl
theorem lComm_ok (W : World) {B_ : Bytes} {at_ : Int} {g0 : Nat} {E0 : TypeId} {d0 : Dletterreader} {b0_0 : Value} (hm : mle (mone g0 (.cells [(b0_0 : Value), .bool d0.2].toArray E0 (0, 0))) (wm W)) (h0_0 : Rd (.sl .byte) (mout (wm W) (mone g0 (.cells [(b0_0 : Value), .bool d0.2].toArray E0 (0, 0)))) [b0_0] d0.1) (e0 : d0.1 = B_.drop at_.toNat) (e1 : rOk B_ (at_, d0.2)) (e2 : B_.length ≤ 9223372036854775807) : CallR Try.prog 51 [.pointer (some ⟨g0, 0, none⟩)] W (mone g0 (.cells [(b0_0 : Value), .bool d0.2].toArray E0 (0, 0))) (fun v m' => ∃ (s0 : List Value), ∃ (p0 : Mem), v = .agg s0.toArray ∧ Seps m' [p0, mone g0 (.cells [(dropV (dropV b0_0 (((rNum B_ ((B_.length : Int) - at_) (at_, d0.2)).2.1 - at_).toNat) 1) (((lComm B_ (at_, d0.2)).2.1 - (rNum B_ ((B_.length : Int) - at_) (at_, d0.2)).2.1).toNat) 1 : Value), .bool ((lComm B_ (at_, d0.2)).2.2)].toArray E0 (0, 0))] ∧ Ow TCommit p0 s0 ((lComm B_ (at_, d0.2)).1)) := by
  have e1_ := e1; obtain ⟨e1a, e1b⟩ := e1_
  have ez : d0.1.length = B_.length - at_.toNat := by rw [e0, List.length_drop]
  have hz : ((d0.1.length : Nat) : Int) = (B_.length : Int) - at_ := by omega
  obtain ⟨A0_0, c0_0, rfl, l0_0, k0_0⟩ := h0_0.slice
  simp only [maxLen] at k0_0
  refine CallR.ofB (n := 55) hm Try.func51 rfl rfl rfl ?_
  have h0x : Rd (.sl .byte) (mout (wm W) (mone g0 (.cells [Value.slice A0_0 (d0.1.length) (c0_0), Value.bool d0.2].toArray E0 (0, 0)))) [Value.slice A0_0 (d0.1.length) (c0_0)] (B_.drop at_.toNat) := by have h_ := h0_0; rw [← e0]; exact h_
  refine VC.rs ?_
  refine VO.alloc 102 rfl tz43 (fun g1 => ?_)
  refine VO.k2 0 2 ?_
  refine VC.rs ?_
  refine VO.mv ?_
  refine VO.mv ?_
  refine VO.y rfl (.nilp rfl) ?_
  refine VO.y rfl (.fa rfl tst74 rfl) ?_
  refine VO.y rfl (.ld1 1 rfl tk30 rfl (cellsAt_one rfl rfl)) ?_
  refine VO.y rfl (.lenS rfl tsl30) ?_
  refine VO.call 1 rfl fnOk50 rfl rfl (fun W hW => lNum_ok W (B_ := B_) (at_ := at_) (d0 := (B_.drop at_.toNat, d0.2)) (hW.at (i := 1) rfl) (Rd.mono h0x (hW.out (i := 1) (j := 0) rfl rfl)) ((d0.1.length : Nat) : Int) bdk (by rfl) (by first | assumption | exact ⟨by omega, by omega⟩ | exact ⟨by (simp; done), by (simp; done)⟩)) (fun v3 m3 hv3 => ?_)
  try dsimp only at hv3
  obtain ⟨rfl, rfl⟩ := hv3
  have hfa4 := (rNum_ok (B := B_) (m := ((d0.1.length : Nat) : Int)) (s := (at_, d0.2)) (by first | assumption | exact ⟨by omega, by omega⟩ | exact ⟨by (simp; done), by (simp; done)⟩) (by omega)).1
  try dsimp only at hfa4
  have hfa5 := (rNum_ok (B := B_) (m := ((d0.1.length : Nat) : Int)) (s := (at_, d0.2)) (by first | assumption | exact ⟨by omega, by omega⟩ | exact ⟨by (simp; done), by (simp; done)⟩) (by omega)).1.1
  try dsimp only at hfa5
  have hfa6 := (rNum_ok (B := B_) (m := ((d0.1.length : Nat) : Int)) (s := (at_, d0.2)) (by first | assumption | exact ⟨by omega, by omega⟩ | exact ⟨by (simp; done), by (simp; done)⟩) (by omega)).1.2
  try dsimp only at hfa6
  have hfa7 := (rNum_ok (B := B_) (m := ((d0.1.length : Nat) : Int)) (s := (at_, d0.2)) (by first | assumption | exact ⟨by omega, by omega⟩ | exact ⟨by (simp; done), by (simp; done)⟩) (by omega)).2
  try dsimp only at hfa7
  obtain ⟨A8, hA8, hs8⟩ := h0x.drop 1 (((rNum B_ ((d0.1.length : Nat) : Int) (at_, d0.2)).2.1 - at_).toNat) rfl bd
  simp only [dropV, hA8]
  have hl8 : d0.1.length - (((rNum B_ ((d0.1.length : Nat) : Int) (at_, d0.2)).2.1 - at_).toNat) = (B_.drop (rNum B_ ((d0.1.length : Nat) : Int) (at_, d0.2)).2.1.toNat).length := by simp only [List.length_drop] at *; omega
  have hd8 : Rd (.sl .byte) (mout (wm W) (mone g0 (.cells [Value.slice A0_0 (d0.1.length) (c0_0), Value.bool d0.2].toArray E0 (0, 0)))) [Value.slice A8 (B_.drop (rNum B_ ((d0.1.length : Nat) : Int) (at_, d0.2)).2.1.toNat).length (c0_0 - (((rNum B_ ((d0.1.length : Nat) : Int) (at_, d0.2)).2.1 - at_).toNat))] (B_.drop (rNum B_ ((d0.1.length : Nat) : Int) (at_, d0.2)).2.1.toNat) := Rd.relen (by have h_ : Rd (.sl .byte) (mout (wm W) (mone g0 (.cells [Value.slice A0_0 (d0.1.length) (c0_0), Value.bool d0.2].toArray E0 (0, 0)))) [Value.slice A8 ((B_.drop at_.toNat).length - (((rNum B_ ((d0.1.length : Nat) : Int) (at_, d0.2)).2.1 - at_).toNat)) (c0_0 - (((rNum B_ ((d0.1.length : Nat) : Int) (at_, d0.2)).2.1 - at_).toNat))] ((B_.drop at_.toNat).drop (((rNum B_ ((d0.1.length : Nat) : Int) (at_, d0.2)).2.1 - at_).toNat)) := hs8; rw [drop_at (by omega) (by omega)] at h_; exact h_) rfl
  rw [hl8]
  refine VO.as ?_
  refine VO.k3 0 2 3 ?_
  refine VC.seq ?_
  refine VC.rs ?_
  refine VO.mv ?_
  refine VO.y rfl (.nilp rfl) ?_
  refine VO.y rfl (.fa rfl tst74 rfl) ?_
  refine VO.y rfl (.ld1 1 rfl tk4 rfl (cellsAt_one rfl rfl)) ?_
  refine VO.mv ?_
  refine VO.decB (t := 17) rfl (fun hc9 => ?_) (fun hc9 => ?_)
  · -- T
    refine VO.gN ?_
    refine VO.gN ?_
    refine VO.gN ?_
    refine VO.gN ?_
    refine VO.gN ?_
    refine VO.gN ?_
    refine VO.gN ?_
    refine VO.y rfl (.pT rfl rfl) ?_
    refine VO.keep [1, 102, 0] [(1, mone g0 (.cells [Value.slice A8 ((B_.drop (rNum B_ ((d0.1.length : Nat) : Int) (at_, d0.2)).2.1.toNat).length) (c0_0 - (((rNum B_ ((d0.1.length : Nat) : Int) (at_, d0.2)).2.1 - at_).toNat)), Value.bool ((rNum B_ ((d0.1.length : Nat) : Int) (at_, d0.2)).2.2)].toArray E0 (0, 0))), (102, mone g1 (.cells [Value.int .i64 (0), Value.int .i64 (0), Value.slice none (0) (0)].toArray 43 (0, 0))), (0, mout (wm W) (mone g0 (.cells [Value.slice A0_0 (d0.1.length) (c0_0), Value.bool d0.2].toArray E0 (0, 0))))] (by kernel_rfl) ?_
    refine VO.k4 0 2 3 25 ?_
    refine VC.condT rfl ?_
    refine VC.rs ?_
    refine VO.mv ?_
    refine VO.y rfl (.nilp rfl) ?_
    refine VO.y rfl (.fa rfl tst74 rfl) ?_
    refine VO.store (k := 1) (c' := [Value.slice A8 ((B_.drop (rNum B_ ((d0.1.length : Nat) : Int) (at_, d0.2)).2.1.toNat).length) (c0_0 - (((rNum B_ ((d0.1.length : Nat) : Int) (at_, d0.2)).2.1 - at_).toNat)), Value.bool true]) 1 rfl rfl (.inr ⟨tk4, rfl⟩) rfl rfl rfl rfl rfl ?_
    refine VO.k4 0 2 3 25 ?_
    refine VC.rs ?_
    refine VO.y rfl (.bst (cs := [Value.int .i64 (0), Value.int .i64 (0), Value.slice none (0) (0)]) rfl tst43 tz43 rfl) ?_
    refine VO.store (k := 3) (c' := [Value.int .i64 (0), Value.int .i64 (0), Value.slice none (0) (0)]) 102 rfl rfl (.inl tk43) rfl rfl rfl rfl rfl ?_
    refine VO.k4 0 2 3 25 ?_
    refine VC.ret ?_
    refine outR ?_
    refine ⟨_, _, res_run (rs := [.cell 2 43]) rfl (.agg 102 rfl tk43 rfl ⟨_, _, _, mone_self _ _, Nat.le_of_ble_eq_true rfl, rfl⟩ .nil), fun W_ hI => out_of (l := [mone g0 (.cells [Value.slice A8 ((B_.drop (rNum B_ ((d0.1.length : Nat) : Int) (at_, d0.2)).2.1.toNat).length) (c0_0 - (((rNum B_ ((d0.1.length : Nat) : Int) (at_, d0.2)).2.1 - at_).toNat)), Value.bool true].toArray E0 (0, 0))]) hI [1] rfl rfl (mle_refl _) (fun hS_ => ?_)⟩
    dsimp only [packV]
    have he0 : ((lComm B_ (at_, d0.2)).1 : Ty.Den TCommit) = (0, 0, []) := by first | rfl | (first | (rw [lComm_1 hz (by assumption)] <;> rfl) | (rw [lComm_2 hz (by assumption) (by omega)] <;> rfl) | (rw [lComm_3 hz (by assumption) (by omega)] <;> rfl))
    have hm0_1 : ((lComm B_ (at_, d0.2)).2.2 : Bool) = true := by first | rfl | (first | (rw [lComm_1 hz (by assumption)] <;> rfl) | (rw [lComm_2 hz (by assumption) (by omega)] <;> rfl) | (rw [lComm_3 hz (by assumption) (by omega)] <;> rfl))
    refine ⟨[Value.int .i64 (0), Value.int .i64 (0), Value.slice none (0) (0)], muns [], ?_, ?_, ?_⟩
    rotate_left
    · have hbx : mone g0 (.cells [(dropV (dropV (Value.slice A0_0 d0.1.length c0_0) (((rNum B_ ((B_.length : Int) - at_) (at_, d0.2)).2.1 - at_).toNat) 1) (((lComm B_ (at_, d0.2)).2.1 - (rNum B_ ((B_.length : Int) - at_) (at_, d0.2)).2.1).toNat) 1 : Value), .bool ((lComm B_ (at_, d0.2)).2.2)].toArray E0 (0, 0)) = mone g0 (.cells [Value.slice A8 ((B_.drop (rNum B_ ((d0.1.length : Nat) : Int) (at_, d0.2)).2.1.toNat).length) (c0_0 - (((rNum B_ ((d0.1.length : Nat) : Int) (at_, d0.2)).2.1 - at_).toNat)), Value.bool true].toArray E0 (0, 0)) := (by rw [hm0_1]; first | rfl | (first | (rw [lComm_1 hz (by assumption)]; dsimp only; rw [← hz]; simp only [Int.sub_self, Int.toNat_zero, dropV_zero2]; simp only [dropV, hA8, hl8]; done) | (rw [lComm_2 hz (by assumption) (by omega)]; dsimp only; rw [← hz]; simp only [Int.sub_self, Int.toNat_zero, dropV_zero2]; simp only [dropV, hA8, hl8]; done) | (rw [lComm_3 hz (by assumption) (by omega)]; dsimp only; rw [← hz]; simp only [add_sub_it]; simp only [dropV, hA8, hl8]; done)))
      show Seps _ [muns [], mone g0 (.cells [(dropV (dropV (Value.slice A0_0 d0.1.length c0_0) (((rNum B_ ((B_.length : Int) - at_) (at_, d0.2)).2.1 - at_).toNat) 1) (((lComm B_ (at_, d0.2)).2.1 - (rNum B_ ((B_.length : Int) - at_) (at_, d0.2)).2.1).toNat) 1 : Value), .bool ((lComm B_ (at_, d0.2)).2.2)].toArray E0 (0, 0))]
      rw [hbx]
      exact Seps.grpM (ls := [[], [mone g0 (.cells [Value.slice A8 ((B_.drop (rNum B_ ((d0.1.length : Nat) : Int) (at_, d0.2)).2.1.toNat).length) (c0_0 - (((rNum B_ ((d0.1.length : Nat) : Int) (at_, d0.2)).2.1 - at_).toNat)), Value.bool true].toArray E0 (0, 0))]]) hS_ (by simp only [List.map, muns_one])
    · rw [he0]; exact (mkO_Commit 0 0 [] (Seps.nilAt 0 (Seps.self hS_ (List.Sublist.cons _ List.Sublist.slnil))) bdk bdk (Ow.nil _ _))
    all_goals (first | rfl | (simp [*]; done))
  · -- F
    refine VO.gy rfl ⟨_, rfl, rfl⟩ (.mv rfl) ?_
    refine VO.gy rfl ⟨_, rfl, rfl⟩ (.mv rfl) ?_
    refine VO.gy rfl ⟨_, rfl, rfl⟩ (.nilp rfl) ?_
    refine VO.gy rfl ⟨_, rfl, rfl⟩ (.fa rfl tst74 rfl) ?_
    refine VO.gy rfl ⟨_, rfl, rfl⟩ (.ld1 1 rfl tk30 rfl (cellsAt_one rfl rfl)) ?_
    refine VO.gy rfl ⟨_, rfl, rfl⟩ (.lenS rfl tsl30) ?_
    refine VO.gy rfl ⟨_, rfl, rfl⟩ (.gtr rfl rfl) ?_
    refine VO.y rfl (.pF rfl rfl) ?_
    refine VO.keep [1, 102, 0] [(1, mone g0 (.cells [Value.slice A8 ((B_.drop (rNum B_ ((d0.1.length : Nat) : Int) (at_, d0.2)).2.1.toNat).length) (c0_0 - (((rNum B_ ((d0.1.length : Nat) : Int) (at_, d0.2)).2.1 - at_).toNat)), Value.bool ((rNum B_ ((d0.1.length : Nat) : Int) (at_, d0.2)).2.2)].toArray E0 (0, 0))), (102, mone g1 (.cells [Value.int .i64 (0), Value.int .i64 (0), Value.slice none (0) (0)].toArray 43 (0, 0))), (0, mout (wm W) (mone g0 (.cells [Value.slice A0_0 (d0.1.length) (c0_0), Value.bool d0.2].toArray E0 (0, 0))))] (by kernel_rfl) ?_
    refine VO.k4 0 2 3 25 ?_
    refine VC.cond rfl (fun hc10 => ?_) (fun hc10 => ?_)
    · -- FT
      refine VC.rs ?_
      refine VO.mv ?_
      refine VO.y rfl (.nilp rfl) ?_
      refine VO.y rfl (.fa rfl tst74 rfl) ?_
      refine VO.store (k := 1) (c' := [Value.slice A8 ((B_.drop (rNum B_ ((d0.1.length : Nat) : Int) (at_, d0.2)).2.1.toNat).length) (c0_0 - (((rNum B_ ((d0.1.length : Nat) : Int) (at_, d0.2)).2.1 - at_).toNat)), Value.bool true]) 1 rfl rfl (.inr ⟨tk4, rfl⟩) rfl rfl rfl rfl rfl ?_
      refine VO.k4 0 2 3 25 ?_
      refine VC.rs ?_
      refine VO.y rfl (.bst (cs := [Value.int .i64 (0), Value.int .i64 (0), Value.slice none (0) (0)]) rfl tst43 tz43 rfl) ?_
      refine VO.store (k := 3) (c' := [Value.int .i64 (0), Value.int .i64 (0), Value.slice none (0) (0)]) 102 rfl rfl (.inl tk43) rfl rfl rfl rfl rfl ?_
      refine VO.k4 0 2 3 25 ?_
      refine VC.ret ?_
      refine outR ?_
      refine ⟨_, _, res_run (rs := [.cell 2 43]) rfl (.agg 102 rfl tk43 rfl ⟨_, _, _, mone_self _ _, Nat.le_of_ble_eq_true rfl, rfl⟩ .nil), fun W_ hI => out_of (l := [mone g0 (.cells [Value.slice A8 ((B_.drop (rNum B_ ((d0.1.length : Nat) : Int) (at_, d0.2)).2.1.toNat).length) (c0_0 - (((rNum B_ ((d0.1.length : Nat) : Int) (at_, d0.2)).2.1 - at_).toNat)), Value.bool true].toArray E0 (0, 0))]) hI [1] rfl rfl (mle_refl _) (fun hS_ => ?_)⟩
      dsimp only [packV]
      have he0 : ((lComm B_ (at_, d0.2)).1 : Ty.Den TCommit) = (0, 0, []) := by first | rfl | (first | (rw [lComm_1 hz (by assumption)] <;> rfl) | (rw [lComm_2 hz (by assumption) (by omega)] <;> rfl) | (rw [lComm_3 hz (by assumption) (by omega)] <;> rfl))
      have hm0_1 : ((lComm B_ (at_, d0.2)).2.2 : Bool) = true := by first | rfl | (first | (rw [lComm_1 hz (by assumption)] <;> rfl) | (rw [lComm_2 hz (by assumption) (by omega)] <;> rfl) | (rw [lComm_3 hz (by assumption) (by omega)] <;> rfl))
      refine ⟨[Value.int .i64 (0), Value.int .i64 (0), Value.slice none (0) (0)], muns [], ?_, ?_, ?_⟩
      rotate_left
      · have hbx : mone g0 (.cells [(dropV (dropV (Value.slice A0_0 d0.1.length c0_0) (((rNum B_ ((B_.length : Int) - at_) (at_, d0.2)).2.1 - at_).toNat) 1) (((lComm B_ (at_, d0.2)).2.1 - (rNum B_ ((B_.length : Int) - at_) (at_, d0.2)).2.1).toNat) 1 : Value), .bool ((lComm B_ (at_, d0.2)).2.2)].toArray E0 (0, 0)) = mone g0 (.cells [Value.slice A8 ((B_.drop (rNum B_ ((d0.1.length : Nat) : Int) (at_, d0.2)).2.1.toNat).length) (c0_0 - (((rNum B_ ((d0.1.length : Nat) : Int) (at_, d0.2)).2.1 - at_).toNat)), Value.bool true].toArray E0 (0, 0)) := (by rw [hm0_1]; first | rfl | (first | (rw [lComm_1 hz (by assumption)]; dsimp only; rw [← hz]; simp only [Int.sub_self, Int.toNat_zero, dropV_zero2]; simp only [dropV, hA8, hl8]; done) | (rw [lComm_2 hz (by assumption) (by omega)]; dsimp only; rw [← hz]; simp only [Int.sub_self, Int.toNat_zero, dropV_zero2]; simp only [dropV, hA8, hl8]; done) | (rw [lComm_3 hz (by assumption) (by omega)]; dsimp only; rw [← hz]; simp only [add_sub_it]; simp only [dropV, hA8, hl8]; done)))
        show Seps _ [muns [], mone g0 (.cells [(dropV (dropV (Value.slice A0_0 d0.1.length c0_0) (((rNum B_ ((B_.length : Int) - at_) (at_, d0.2)).2.1 - at_).toNat) 1) (((lComm B_ (at_, d0.2)).2.1 - (rNum B_ ((B_.length : Int) - at_) (at_, d0.2)).2.1).toNat) 1 : Value), .bool ((lComm B_ (at_, d0.2)).2.2)].toArray E0 (0, 0))]
        rw [hbx]
        exact Seps.grpM (ls := [[], [mone g0 (.cells [Value.slice A8 ((B_.drop (rNum B_ ((d0.1.length : Nat) : Int) (at_, d0.2)).2.1.toNat).length) (c0_0 - (((rNum B_ ((d0.1.length : Nat) : Int) (at_, d0.2)).2.1 - at_).toNat)), Value.bool true].toArray E0 (0, 0))]]) hS_ (by simp only [List.map, muns_one])
      · rw [he0]; exact (mkO_Commit 0 0 [] (Seps.nilAt 0 (Seps.self hS_ (List.Sublist.cons _ List.Sublist.slnil))) bdk bdk (Ow.nil _ _))
      all_goals (first | rfl | (simp [*]; done))
    · -- FF
      refine VC.skip ?_
      refine outN ?_
      refine VC.rs ?_
      refine VO.mv ?_
      refine VO.y rfl (.nilp rfl) ?_
      refine VO.y rfl (.fa rfl tst74 rfl) ?_
      refine VO.y rfl (.ld1 1 rfl tk30 rfl (cellsAt_one rfl rfl)) ?_
      refine VO.mv ?_
      have hs11 := hd8.pre (j := (((rNum B_ ((d0.1.length : Nat) : Int) (at_, d0.2)).1).toNat)) bd
      refine VO.y rfl (.slHI (((rNum B_ ((d0.1.length : Nat) : Int) (at_, d0.2)).1).toNat) rfl rfl tsl30 bd bd) ?_
      refine VO.callN 112 rfl fnOk79 rfl (fun W hW => cDecode_ok_ W (Rd.mono hs11 (hW.at (i := 0) rfl))) (fun v12 m12 hv12 => ?_)
      obtain ⟨s12_0, rfl, f12_0⟩ := hv12
      have hfa13 := cDecode_fits ((B_.drop (rNum B_ ((d0.1.length : Nat) : Int) (at_, d0.2)).2.1.toNat).take (((rNum B_ ((d0.1.length : Nat) : Int) (at_, d0.2)).1).toNat))
      obtain ⟨q12_0_A2, q12_0_c2, q12_0_n2, rfl, q12_0_S, q12_0_0, q12_0_1, q12_0_2⟩ := openO_Commit (x0 := ((cDecode ((B_.drop (rNum B_ ((d0.1.length : Nat) : Int) (at_, d0.2)).2.1.toNat).take (((rNum B_ ((d0.1.length : Nat) : Int) (at_, d0.2)).1).toNat))).1).1) (x1 := ((cDecode ((B_.drop (rNum B_ ((d0.1.length : Nat) : Int) (at_, d0.2)).2.1.toNat).take (((rNum B_ ((d0.1.length : Nat) : Int) (at_, d0.2)).1).toNat))).1).2.1) (x2 := ((cDecode ((B_.drop (rNum B_ ((d0.1.length : Nat) : Int) (at_, d0.2)).2.1.toNat).take (((rNum B_ ((d0.1.length : Nat) : Int) (at_, d0.2)).1).toNat))).1).2.2) f12_0
      simp only [inK] at q12_0_0
      simp only [inK] at q12_0_1
      have q12_0_r2 := Rd.room (q12_0_2.rd (mle_refl _))
      refine VO.inv _ (fun _ h => h.parts (i := 112) rfl q12_0_S [114]) ?_
      refine VO.mv ?_
      refine VO.y rfl (.ext rfl rfl) ?_
      refine VO.y rfl (.ext rfl rfl) ?_
      refine VO.alloc 116 rfl tz43 (fun g15 => ?_)
      refine VO.store (k := 3) (c' := [Value.int .i64 (((cDecode ((B_.drop (rNum B_ ((d0.1.length : Nat) : Int) (at_, d0.2)).2.1.toNat).take (((rNum B_ ((d0.1.length : Nat) : Int) (at_, d0.2)).1).toNat))).1).1), Value.int .i64 (((cDecode ((B_.drop (rNum B_ ((d0.1.length : Nat) : Int) (at_, d0.2)).2.1.toNat).take (((rNum B_ ((d0.1.length : Nat) : Int) (at_, d0.2)).1).toNat))).1).2.1), Value.slice q12_0_A2 ((((cDecode ((B_.drop (rNum B_ ((d0.1.length : Nat) : Int) (at_, d0.2)).2.1.toNat).take (((rNum B_ ((d0.1.length : Nat) : Int) (at_, d0.2)).1).toNat))).1).2.2).length) (q12_0_c2)]) 116 rfl rfl (.inl tk43) rfl rfl rfl rfl rfl ?_
      refine VO.as ?_
      refine VO.k6 0 2 3 4 5 25 ?_
      refine VC.rs ?_
      refine VO.mv ?_
      refine VO.mv ?_
      refine VO.y rfl (.neq rfl rfl) ?_
      refine VO.y rfl (.nilp rfl) ?_
      refine VO.y rfl (.fa rfl tst74 rfl) ?_
      refine VO.store (k := 1) (c' := [Value.slice A8 ((B_.drop (rNum B_ ((d0.1.length : Nat) : Int) (at_, d0.2)).2.1.toNat).length) (c0_0 - (((rNum B_ ((d0.1.length : Nat) : Int) (at_, d0.2)).2.1 - at_).toNat)), Value.bool (decide (¬ ((cDecode ((B_.drop (rNum B_ ((d0.1.length : Nat) : Int) (at_, d0.2)).2.1.toNat).take (((rNum B_ ((d0.1.length : Nat) : Int) (at_, d0.2)).1).toNat))).2) = 0))]) 1 rfl rfl (.inr ⟨tk4, rfl⟩) rfl rfl rfl rfl rfl ?_
      refine VO.k6 0 2 3 4 5 25 ?_
      refine VC.rs ?_
      refine VO.mv ?_
      refine VO.mv ?_
      refine VO.y rfl (.nilp rfl) ?_
      refine VO.y rfl (.fa rfl tst74 rfl) ?_
      refine VO.y rfl (.ld1 1 rfl tk30 rfl (cellsAt_one rfl rfl)) ?_
      refine VO.mv ?_
      obtain ⟨A17, hA17, hs17⟩ := hd8.drop 1 (((rNum B_ ((d0.1.length : Nat) : Int) (at_, d0.2)).1).toNat) rfl bd
      refine VO.y rfl (.slLI (((rNum B_ ((d0.1.length : Nat) : Int) (at_, d0.2)).1).toNat) A17 rfl rfl tsl30 bd hA17 bd) ?_
      refine VO.y rfl (.nilp rfl) ?_
      refine VO.y rfl (.fa rfl tst74 rfl) ?_
      refine VO.store (k := 1) (c' := [Value.slice A17 (((B_.drop (rNum B_ ((d0.1.length : Nat) : Int) (at_, d0.2)).2.1.toNat).length) - (((rNum B_ ((d0.1.length : Nat) : Int) (at_, d0.2)).1).toNat)) ((c0_0 - (((rNum B_ ((d0.1.length : Nat) : Int) (at_, d0.2)).2.1 - at_).toNat)) - (((rNum B_ ((d0.1.length : Nat) : Int) (at_, d0.2)).1).toNat)), Value.bool (decide (¬ ((cDecode ((B_.drop (rNum B_ ((d0.1.length : Nat) : Int) (at_, d0.2)).2.1.toNat).take (((rNum B_ ((d0.1.length : Nat) : Int) (at_, d0.2)).1).toNat))).2) = 0))]) 1 rfl rfl (.inr ⟨tk30, rfl⟩) rfl rfl rfl rfl rfl ?_
      refine VO.keep [116, 114, 1, 102, 0] [(116, mone g15 (.cells [Value.int .i64 (((cDecode ((B_.drop (rNum B_ ((d0.1.length : Nat) : Int) (at_, d0.2)).2.1.toNat).take (((rNum B_ ((d0.1.length : Nat) : Int) (at_, d0.2)).1).toNat))).1).1), Value.int .i64 (((cDecode ((B_.drop (rNum B_ ((d0.1.length : Nat) : Int) (at_, d0.2)).2.1.toNat).take (((rNum B_ ((d0.1.length : Nat) : Int) (at_, d0.2)).1).toNat))).1).2.1), Value.slice q12_0_A2 ((((cDecode ((B_.drop (rNum B_ ((d0.1.length : Nat) : Int) (at_, d0.2)).2.1.toNat).take (((rNum B_ ((d0.1.length : Nat) : Int) (at_, d0.2)).1).toNat))).1).2.2).length) (q12_0_c2)].toArray 43 (0, 0))), (114, q12_0_n2), (1, mone g0 (.cells [Value.slice A17 (((B_.drop (rNum B_ ((d0.1.length : Nat) : Int) (at_, d0.2)).2.1.toNat).length) - (((rNum B_ ((d0.1.length : Nat) : Int) (at_, d0.2)).1).toNat)) ((c0_0 - (((rNum B_ ((d0.1.length : Nat) : Int) (at_, d0.2)).2.1 - at_).toNat)) - (((rNum B_ ((d0.1.length : Nat) : Int) (at_, d0.2)).1).toNat)), Value.bool (decide (¬ ((cDecode ((B_.drop (rNum B_ ((d0.1.length : Nat) : Int) (at_, d0.2)).2.1.toNat).take (((rNum B_ ((d0.1.length : Nat) : Int) (at_, d0.2)).1).toNat))).2) = 0))].toArray E0 (0, 0))), (102, mone g1 (.cells [Value.int .i64 (0), Value.int .i64 (0), Value.slice none (0) (0)].toArray 43 (0, 0))), (0, mout (wm W) (mone g0 (.cells [Value.slice A0_0 (d0.1.length) (c0_0), Value.bool d0.2].toArray E0 (0, 0))))] (by kernel_rfl) ?_
      refine VO.k6 0 2 3 4 5 25 ?_
      refine VC.rs ?_
      refine VO.y rfl (.ldA 116 rfl tk43 rfl (cellsAt_one rfl rfl)) ?_
      refine VO.store (k := 3) (c' := [Value.int .i64 (((cDecode ((B_.drop (rNum B_ ((d0.1.length : Nat) : Int) (at_, d0.2)).2.1.toNat).take (((rNum B_ ((d0.1.length : Nat) : Int) (at_, d0.2)).1).toNat))).1).1), Value.int .i64 (((cDecode ((B_.drop (rNum B_ ((d0.1.length : Nat) : Int) (at_, d0.2)).2.1.toNat).take (((rNum B_ ((d0.1.length : Nat) : Int) (at_, d0.2)).1).toNat))).1).2.1), Value.slice q12_0_A2 ((((cDecode ((B_.drop (rNum B_ ((d0.1.length : Nat) : Int) (at_, d0.2)).2.1.toNat).take (((rNum B_ ((d0.1.length : Nat) : Int) (at_, d0.2)).1).toNat))).1).2.2).length) (q12_0_c2)]) 102 rfl rfl (.inl tk43) rfl rfl rfl rfl rfl ?_
      refine VO.k6 0 2 3 4 5 25 ?_
      refine VC.ret ?_
      refine ⟨_, _, res_run (rs := [.cell 2 43]) rfl (.agg 102 rfl tk43 rfl ⟨_, _, _, mone_self _ _, Nat.le_of_ble_eq_true rfl, rfl⟩ .nil), fun W_ hI => out_of (l := [q12_0_n2, mone g0 (.cells [Value.slice A17 (((B_.drop (rNum B_ ((d0.1.length : Nat) : Int) (at_, d0.2)).2.1.toNat).length) - (((rNum B_ ((d0.1.length : Nat) : Int) (at_, d0.2)).1).toNat)) ((c0_0 - (((rNum B_ ((d0.1.length : Nat) : Int) (at_, d0.2)).2.1 - at_).toNat)) - (((rNum B_ ((d0.1.length : Nat) : Int) (at_, d0.2)).1).toNat)), Value.bool (decide (¬ ((cDecode ((B_.drop (rNum B_ ((d0.1.length : Nat) : Int) (at_, d0.2)).2.1.toNat).take (((rNum B_ ((d0.1.length : Nat) : Int) (at_, d0.2)).1).toNat))).2) = 0))].toArray E0 (0, 0))]) hI [114, 1] rfl rfl (mle_refl _) (fun hS_ => ?_)⟩
      dsimp only [packV]
      have he0 : ((lComm B_ (at_, d0.2)).1 : Ty.Den TCommit) = ((cDecode ((B_.drop (rNum B_ ((d0.1.length : Nat) : Int) (at_, d0.2)).2.1.toNat).take (((rNum B_ ((d0.1.length : Nat) : Int) (at_, d0.2)).1).toNat))).1) := by first | rfl | (first | (rw [lComm_1 hz (by assumption)] <;> rfl) | (rw [lComm_2 hz (by assumption) (by omega)] <;> rfl) | (rw [lComm_3 hz (by assumption) (by omega)] <;> rfl))
      have hm0_1 : ((lComm B_ (at_, d0.2)).2.2 : Bool) = decide (¬ ((cDecode ((B_.drop (rNum B_ ((d0.1.length : Nat) : Int) (at_, d0.2)).2.1.toNat).take (((rNum B_ ((d0.1.length : Nat) : Int) (at_, d0.2)).1).toNat))).2) = 0) := by first | rfl | (first | (rw [lComm_1 hz (by assumption)] <;> rfl) | (rw [lComm_2 hz (by assumption) (by omega)] <;> rfl) | (rw [lComm_3 hz (by assumption) (by omega)] <;> rfl))
      refine ⟨[Value.int .i64 (((cDecode ((B_.drop (rNum B_ ((d0.1.length : Nat) : Int) (at_, d0.2)).2.1.toNat).take (((rNum B_ ((d0.1.length : Nat) : Int) (at_, d0.2)).1).toNat))).1).1), Value.int .i64 (((cDecode ((B_.drop (rNum B_ ((d0.1.length : Nat) : Int) (at_, d0.2)).2.1.toNat).take (((rNum B_ ((d0.1.length : Nat) : Int) (at_, d0.2)).1).toNat))).1).2.1), Value.slice q12_0_A2 ((((cDecode ((B_.drop (rNum B_ ((d0.1.length : Nat) : Int) (at_, d0.2)).2.1.toNat).take (((rNum B_ ((d0.1.length : Nat) : Int) (at_, d0.2)).1).toNat))).1).2.2).length) (q12_0_c2)], muns [q12_0_n2], ?_, ?_, ?_⟩
      rotate_left
      · have hbx : mone g0 (.cells [(dropV (dropV (Value.slice A0_0 d0.1.length c0_0) (((rNum B_ ((B_.length : Int) - at_) (at_, d0.2)).2.1 - at_).toNat) 1) (((lComm B_ (at_, d0.2)).2.1 - (rNum B_ ((B_.length : Int) - at_) (at_, d0.2)).2.1).toNat) 1 : Value), .bool ((lComm B_ (at_, d0.2)).2.2)].toArray E0 (0, 0)) = mone g0 (.cells [Value.slice A17 (((B_.drop (rNum B_ ((d0.1.length : Nat) : Int) (at_, d0.2)).2.1.toNat).length) - (((rNum B_ ((d0.1.length : Nat) : Int) (at_, d0.2)).1).toNat)) ((c0_0 - (((rNum B_ ((d0.1.length : Nat) : Int) (at_, d0.2)).2.1 - at_).toNat)) - (((rNum B_ ((d0.1.length : Nat) : Int) (at_, d0.2)).1).toNat)), Value.bool (decide (¬ ((cDecode ((B_.drop (rNum B_ ((d0.1.length : Nat) : Int) (at_, d0.2)).2.1.toNat).take (((rNum B_ ((d0.1.length : Nat) : Int) (at_, d0.2)).1).toNat))).2) = 0))].toArray E0 (0, 0)) := (by rw [hm0_1]; first | rfl | (first | (rw [lComm_1 hz (by assumption)]; dsimp only; rw [← hz]; simp only [Int.sub_self, Int.toNat_zero, dropV_zero2]; simp only [dropV, hA8, hl8, hA17]; done) | (rw [lComm_2 hz (by assumption) (by omega)]; dsimp only; rw [← hz]; simp only [Int.sub_self, Int.toNat_zero, dropV_zero2]; simp only [dropV, hA8, hl8, hA17]; done) | (rw [lComm_3 hz (by assumption) (by omega)]; dsimp only; rw [← hz]; simp only [add_sub_it]; simp only [dropV, hA8, hl8, hA17]; done)))
        show Seps _ [muns [q12_0_n2], mone g0 (.cells [(dropV (dropV (Value.slice A0_0 d0.1.length c0_0) (((rNum B_ ((B_.length : Int) - at_) (at_, d0.2)).2.1 - at_).toNat) 1) (((lComm B_ (at_, d0.2)).2.1 - (rNum B_ ((B_.length : Int) - at_) (at_, d0.2)).2.1).toNat) 1 : Value), .bool ((lComm B_ (at_, d0.2)).2.2)].toArray E0 (0, 0))]
        rw [hbx]
        exact Seps.grpM (ls := [[q12_0_n2], [mone g0 (.cells [Value.slice A17 (((B_.drop (rNum B_ ((d0.1.length : Nat) : Int) (at_, d0.2)).2.1.toNat).length) - (((rNum B_ ((d0.1.length : Nat) : Int) (at_, d0.2)).1).toNat)) ((c0_0 - (((rNum B_ ((d0.1.length : Nat) : Int) (at_, d0.2)).2.1 - at_).toNat)) - (((rNum B_ ((d0.1.length : Nat) : Int) (at_, d0.2)).1).toNat)), Value.bool (decide (¬ ((cDecode ((B_.drop (rNum B_ ((d0.1.length : Nat) : Int) (at_, d0.2)).2.1.toNat).take (((rNum B_ ((d0.1.length : Nat) : Int) (at_, d0.2)).1).toNat))).2) = 0))].toArray E0 (0, 0))]]) hS_ (by simp only [List.map, muns_one])
      · rw [he0]; exact (show Ow TCommit _ _ ((cDecode ((B_.drop (rNum B_ ((d0.1.length : Nat) : Int) (at_, d0.2)).2.1.toNat).take (((rNum B_ ((d0.1.length : Nat) : Int) (at_, d0.2)).1).toNat))).1) from (mkO_Commit (((cDecode ((B_.drop (rNum B_ ((d0.1.length : Nat) : Int) (at_, d0.2)).2.1.toNat).take (((rNum B_ ((d0.1.length : Nat) : Int) (at_, d0.2)).1).toNat))).1).1) (((cDecode ((B_.drop (rNum B_ ((d0.1.length : Nat) : Int) (at_, d0.2)).2.1.toNat).take (((rNum B_ ((d0.1.length : Nat) : Int) (at_, d0.2)).1).toNat))).1).2.1) (((cDecode ((B_.drop (rNum B_ ((d0.1.length : Nat) : Int) (at_, d0.2)).2.1.toNat).take (((rNum B_ ((d0.1.length : Nat) : Int) (at_, d0.2)).1).toNat))).1).2.2) (Seps.self hS_ (List.Sublist.cons_cons _ (List.Sublist.cons _ List.Sublist.slnil))) bdk bdk (OwnL.ow (Ow.ownl q12_0_2 rfl mnil) rfl)))
      all_goals (first | rfl | (simp [*]; done))
end
end Go.Proofs.Ytcikgnbpcombpaa
