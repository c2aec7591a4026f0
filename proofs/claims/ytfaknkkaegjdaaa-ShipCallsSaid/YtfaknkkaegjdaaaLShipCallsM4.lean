/- Part 4 of the proof of LShipCalls: what it needs of the library, the walks and the plain laws. Conditions: those named in each theorem. -/
import Derived.Test.YtfaknkkaegjdaaaLShipCallsM3
namespace Go.Proofs.Ytfaknkkaegjdaaa
section
set_option linter.unusedVariables false
set_option linter.unusedSimpArgs false
set_option maxRecDepth 4000
theorem fnOk114 : fnOk Try.prog 114 = true := by kernel_rfl
theorem fnOk115 : fnOk Try.prog 115 = true := by kernel_rfl
theorem fnOk116 : fnOk Try.prog 116 = true := by kernel_rfl
theorem fnOk141 : fnOk Try.prog 141 = true := by kernel_rfl
theorem c4Copy_ok (W : World) {v0 : List Value} {d0 : DCommit} (h0 : Rd TCommit (wm W) v0 d0) (e0 : d0.2.2.length ≤ 3518437208800) : CallR Try.prog 116 [.agg v0.toArray] W (mnil) (fun v m' => ∃ (s0 : List Value), v = .agg s0.toArray ∧ Ow TCommit m' s0 (d0)) := by
  obtain ⟨p0_A2, p0_c2, rfl, p0_0, p0_1, p0_2⟩ := open_Commit (x0 := d0.1) (x1 := d0.2.1) (x2 := d0.2.2) h0
  simp only [inK] at p0_0
  simp only [inK] at p0_1
  have p0_r2 := Rd.room p0_2
  refine CallR.ofA (n := 13) Try.func116 rfl rfl rfl ?_
  refine VC.rs ?_
  refine VO.box (cs := [Value.int .i64 (d0.1), Value.int .i64 (d0.2.1), Value.slice p0_A2 (d0.2.2.length) (p0_c2)]) 102 rfl rfl rfl (fun g1 => ?_)
  refine VO.alloc 104 rfl tz52 (fun g3 => ?_)
  refine VO.k3 0 1 2 ?_
  refine VC.rs ?_
  refine VO.as ?_
  refine VO.k4 0 1 2 3 ?_
  refine VC.seq ?_
  refine VC.regD _ 8 [(0, true), (1, true), (2, true), (3, true), (4, true), (5, true), (6, true), (7, false)] follows (by kernel_rfl) (fun _ h => h.sub [104, 102, 0]) ?_
  refine VD.y rfl rfl (.inl rfl) (.fa rfl tst52 rfl) ?_
  refine VD.y rfl rfl (.inl rfl) (.ld1 102 rfl tk3 rfl (cellsAt_one rfl rfl)) ?_
  refine VD.y rfl rfl (.inl rfl) (.fa rfl tst52 rfl) ?_
  refine VD.y rfl rfl (.inl rfl) (.ld1 102 rfl tk3 rfl (cellsAt_one rfl rfl)) ?_
  refine VD.y rfl rfl (.inl rfl) (.mv rfl) ?_
  refine VD.y rfl rfl (.inl rfl) (.fa rfl tst52 rfl) ?_
  refine VD.y rfl rfl (.inl rfl) (.ld1 102 rfl tk22 rfl (cellsAt_one rfl rfl)) ?_
  refine VD.inv _ (fun _ h => h.nilc 106) ?_
  obtain ⟨mo5, cs5, hM5, hA5, hC5⟩ := (OwnL.nil TOp mnil mnil)
  obtain ⟨all5, hS5, hR5⟩ := Rd.srcI (P := Try.prog) (p0_2) Try.underlying22
  refine VD.app 106 rfl rfl rfl rfl tsl22 tz49 rfl rfl hM5 hA5 (hS5 _ 0 rfl) hR5.nice bdm bd (by decide) (fun _ _ h => h.sub [104, 102, 0]) (fun v5 m5 hN5 => ?_)
  have ho5 : OwnL TOp m5 mnil v5 (d0.2.2) := OwnL.more hC5 hN5 (All2c.mono hR5 fun _ _ h => Rd.flat rfl h _)
  obtain ⟨A5, c5, rfl, l5, k5⟩ := ho5.slice
  simp only [maxLen] at k5
  refine VD.nil rfl ?_ rfl
  refine VO.y rfl (.bst (cs := [Value.int .i64 (d0.1), Value.int .i64 (d0.2.1), Value.slice A5 ((d0.2.2).length) (c5)]) rfl tst52 tz52 rfl) ?_
  refine VO.store (k := 3) (c' := [Value.int .i64 (d0.1), Value.int .i64 (d0.2.1), Value.slice A5 ((d0.2.2).length) (c5)]) 104 rfl rfl (.inl tk52) rfl rfl rfl rfl rfl ?_
  refine VO.keep [106, 104, 102, 0] [(106, m5), (104, mone g3 (.cells [Value.int .i64 (d0.1), Value.int .i64 (d0.2.1), Value.slice A5 ((d0.2.2).length) (c5)].toArray 52 (0, 0))), (102, mone g1 (.cells [Value.int .i64 (d0.1), Value.int .i64 (d0.2.1), Value.slice p0_A2 (d0.2.2.length) (p0_c2)].toArray 52 (0, 0))), (0, wm W)] (by kernel_rfl) ?_
  refine VO.k4 0 1 2 3 ?_
  refine outN ?_
  refine VC.ret ?_
  refine ⟨_, _, res_run (rs := [.cell 2 52]) rfl (.agg 104 rfl tk52 rfl ⟨_, _, _, mone_self _ _, Nat.le_of_ble_eq_true rfl, rfl⟩ .nil), fun W_ hI => out_of (l := [m5]) hI [106] rfl rfl (mle_refl _) (fun hS_ => ?_)⟩
  dsimp only [packV]
  have he0 : (d0 : Ty.Den TCommit) = d0 := by first | rfl | (simp [*]; done)
  refine ⟨[Value.int .i64 (d0.1), Value.int .i64 (d0.2.1), Value.slice A5 ((d0.2.2).length) (c5)], ?_, ?_⟩
  rotate_left
  · rw [he0]; exact (show Ow TCommit _ _ d0 from (mkO_Commit d0.1 d0.2.1 d0.2.2 hS_ bdk bdk (OwnL.ow ho5 rfl)))
  all_goals (first | rfl | (simp [*]; done))
theorem told_ok (W : World) {v0 : Value} {d0 : List DCommit} (h0 : Rd (.sl TCommit) (wm W) [v0] d0) (e0 : d0.length ≤ 8796093020000) : CallR Try.prog 141 [v0] W (mnil) (fun v m' => ∃ (s0 : Value), v = s0 ∧ Ow (.sl TStart) m' [s0] (d0.foldl sGrown [])) := by
  obtain ⟨A0, c0, rfl, l0, k0⟩ := h0.slice
  simp only [maxLen] at k0
  refine CallR.ofA (n := 42) Try.func141 rfl rfl rfl ?_
  refine VC.rs ?_
  refine VO.as ?_
  refine VO.k2 0 2 ?_
  refine VC.rs ?_
  refine VO.as ?_
  refine VO.k3 0 2 3 ?_
  refine VC.seq ?_
  refine VC.rs ?_
  refine VO.as ?_
  refine VO.keep [0] [(0, wm W)] (by kernel_rfl) ?_
  refine VO.k4 0 2 3 4 ?_
  refine VC.block ?_
  refine VC.inv ((101, mnil) :: _) (fun _ h => h.nilc 101) ?_
  refine VC.loop (G := Nat × (List DStart) × (Option Addr) × Nat × Mem) (fun g => [(3, Value.slice (g.2.2.1) ((g.2.1).length) ((g.2.2.2.1))), (4, Value.int .i64 ((((g.1) : Nat) : Int))), (0, Value.slice A0 (d0.length) (c0)), (2, Value.slice none (0) (0))]) (fun g => [(101, (g.2.2.2.2)), (0, wm W)]) (fun g => ((g.1) ≤ d0.length) ∧ ((g.2.1) = (d0.take (g.1)).foldl sGrown []) ∧ (OwnL TStart (g.2.2.2.2) mnil (.slice (g.2.2.1) (g.2.1).length (g.2.2.2.1)) (g.2.1))) (fun g => d0.length - (g.1)) (0, [], none, 0, mnil) (⟨by omega, by rfl, (OwnL.nil TStart mnil mnil)⟩) ⟨⟨rfl, rfl, rfl, rfl, trivial⟩, fun _ h => h.sub [101, 0]⟩ ?_
  rintro ⟨k, out, out_A, out_c, out_m⟩ ⟨hk, ho, h_out⟩
  replace hk : k ≤ d0.length := hk
  replace ho : out = (d0.take k).foldl sGrown [] := ho
  replace h_out : OwnL TStart out_m mnil (.slice out_A out.length out_c) out := h_out
  show VC _ _ _ _ _ [(3, Value.slice out_A (out.length) (out_c)), (4, Value.int .i64 (((k : Nat) : Int))), (0, Value.slice A0 (d0.length) (c0)), (2, Value.slice none (0) (0))] [(101, out_m), (0, wm W)]
  have l_out : out.length ≤ out_c := by obtain ⟨_, _, he, hl, _⟩ := h_out.slice; simp only [Value.slice.injEq] at he; omega
  have k_out : out_c ≤ 9223372036854775807 := by obtain ⟨_, _, he, _, hl⟩ := h_out.slice; simp only [Value.slice.injEq, maxLen] at he hl; omega
  have hlo : out.length ≤ k := by have := fold_len (d0.take k) []; rw [ho]; simp at this; omega
  refine VC.seq ?_
  refine VC.rs ?_
  refine VO.mv ?_
  refine VO.mv ?_
  refine VO.y rfl (.lenS rfl tsl61) ?_
  refine VO.y rfl (.lss rfl rfl) ?_
  refine VO.k5 0 2 3 4 8 ?_
  refine VC.cond rfl (fun hc2 => ?_) (fun hc2 => ?_)
  · -- T
    refine VC.skip ?_
    refine outN ?_
    refine VC.seq ?_
    refine VC.block ?_
    refine VC.seq ?_
    refine VC.regD _ 14 [(0, true), (1, true), (2, true), (3, true), (4, true), (5, true), (6, true), (7, true), (8, true), (9, true), (10, true), (11, true), (12, true), (13, true)] follows (by kernel_rfl) (fun _ h => h.sub [101, 0]) ?_
    refine VD.y rfl rfl (.inl rfl) (.mv rfl) ?_
    refine VD.y rfl rfl (.inl rfl) (.eql rfl rfl) ?_
    refine VD.y rfl rfl (.inl rfl) (.mv rfl) ?_
    refine VD.dec (s := 13) rfl (fun hc3 => ?_) (fun hc3 => ?_)
    · -- TT
      refine VD.gn rfl rfl (.inl ⟨_, rfl, rfl⟩) ?_
      refine VD.gn rfl rfl (.inl ⟨_, rfl, rfl⟩) ?_
      refine VD.gn rfl rfl (.inl ⟨_, rfl, rfl⟩) ?_
      refine VD.gn rfl rfl (.inl ⟨_, rfl, rfl⟩) ?_
      refine VD.gn rfl rfl (.inl ⟨_, rfl, rfl⟩) ?_
      refine VD.gn rfl rfl (.inl ⟨_, rfl, rfl⟩) ?_
      refine VD.gn rfl rfl (.inl ⟨_, rfl, rfl⟩) ?_
      refine VD.gn rfl rfl (.inl ⟨_, rfl, rfl⟩) ?_
      refine VD.gn rfl rfl (.inl ⟨_, rfl, rfl⟩) ?_
      refine VD.gn rfl rfl (.inl ⟨_, rfl, rfl⟩) ?_
      refine VD.gn rfl rfl (.inl ⟨_, rfl, rfl⟩) ?_
      refine VD.nil rfl ?_ rfl
      refine VO.gN ?_
      refine VO.y rfl (.pT rfl rfl) ?_
      refine VO.k6 0 2 3 4 8 26 ?_
      refine outN ?_
      refine VC.condT rfl ?_
      refine VC.regD _ 13 [(0, true), (1, true), (2, true), (3, true), (4, true), (5, true), (6, true), (7, true), (8, true), (9, true), (10, true), (11, true), (12, false)] follows (by kernel_rfl) (fun _ h => h.sub [101, 0]) ?_
      refine VD.y rfl rfl (.inl rfl) (.mv rfl) ?_
      refine VD.y rfl rfl (.inl rfl) (.mv rfl) ?_
      refine VD.y rfl rfl (.inl rfl) (.mv rfl) ?_
      obtain ⟨x4, hx4⟩ : ∃ z_, (d0)[k]? = some z_ := ⟨_, List.getElem?_eq_getElem bd⟩
      obtain ⟨gg4, oo4, ec4, ea4, hce4, hre4⟩ := h0.elem hx4
      cases ea4
      obtain ⟨q4_A2, q4_c2, rfl, q4_0, q4_1, q4_2⟩ := open_Commit (x0 := x4.1) (x1 := x4.2.1) (x2 := x4.2.2) hre4
      simp only [inK] at q4_0
      simp only [inK] at q4_1
      have q4_r2 := Rd.room q4_2
      refine VD.y rfl rfl (.inl rfl) (.ixI k rfl rfl tsl61 rfl bd) ?_
      refine VD.y rfl rfl (.inl rfl) (.fa rfl tst52 rfl) ?_
      refine VD.y rfl rfl (.inl rfl) (.ld1 0 rfl tk3 rfl (hce4.at1 (j := 0) rfl)) ?_
      refine VD.y rfl rfl (.inl rfl) (.mv rfl) ?_
      refine VD.y rfl rfl (.inl rfl) (.mv rfl) ?_
      refine VD.y rfl rfl (.inl rfl) (.ixI k rfl rfl tsl61 rfl bd) ?_
      refine VD.y rfl rfl (.inl rfl) (.fa rfl tst52 rfl) ?_
      refine VD.y rfl rfl (.inl rfl) (.ld1 0 rfl tk3 rfl (hce4.at1 (j := 1) rfl)) ?_
      refine VD.y rfl rfl (.inl rfl) (.bst (cs := [Value.int .i64 (x4.1), Value.int .i64 (x4.2.1)]) rfl tst90 tz90 rfl) ?_
      refine VD.bsl (cs := [Value.int .i64 (x4.1), Value.int .i64 (x4.2.1)]) 107 rfl rfl rfl tsl70 tz90 rfl rfl (fun _ h => h.sub [101, 0]) (fun g6 => ?_)
      refine VD.nil rfl ?_ rfl
      obtain ⟨mo8, cs8, hM8, hA8, hC8⟩ := h_out
      refine VO.app 101 rfl rfl rfl tsl70 tz90 rfl rfl hM8 hA8 (.row 107 _ _ _ 1 1 _ _ Try.underlying70 rfl (cellsAt_one rfl rfl)) (by simp [Value.oneCell']) bdm bd (by decide) (fun v8 m8 hN8 => ?_)
      have ho8 : OwnL TStart m8 mnil v8 (out ++ [(x4.1, x4.2.1)]) := OwnL.one hC8 hN8 (mk_Start (m := _) x4.1 x4.2.1 bdk bdk)
      obtain ⟨A8, c8, rfl, l8, k8⟩ := ho8.slice
      simp only [maxLen] at k8
      refine VO.as ?_
      refine VO.keep [101, 0] [(101, m8), (0, wm W)] (by kernel_rfl) ?_
      refine VO.k6 0 2 3 4 8 26 ?_
      refine outBN ?_
      refine outN ?_
      refine VC.reg ?_
      refine VO.mv ?_
      refine VO.y rfl (.add (c := ((k + 1 : Nat) : Int)) rfl rfl (by omega) ⟨bd, bd⟩) ?_
      refine VO.as ?_
      refine VO.k6 0 2 3 4 8 26 ?_
      exact outN ⟨⟨k + 1, out ++ [(x4.1, x4.2.1)], A8, c8, m8⟩, ⟨by omega, by first | exact told_same ho (by omega) ‹d0[k]? = some _› (by first | assumption | (rw [show k - 1 = ((k : Int) - 1).toNat from by omega]; assumption)) (Decidable.not_not.1 (by assumption)) | exact told_new ho ‹d0[k]? = some _› (.inl (by omega)) | exact told_new ho ‹d0[k]? = some _› (.inr ⟨_, by first | assumption | (rw [show k - 1 = ((k : Int) - 1).toNat from by omega]; assumption), by assumption⟩), ho8⟩, bd, ⟨⟨rfl, rfl, rfl, rfl, trivial⟩, fun _ h => Inv.sub h [101, 0]⟩⟩
    · -- TF
      refine VD.y rfl rfl (.inr ⟨_, _, rfl, _, rfl, rfl⟩) (.mv rfl) ?_
      refine VD.y rfl rfl (.inr ⟨_, _, rfl, _, rfl, rfl⟩) (.mv rfl) ?_
      obtain ⟨x9, hx9⟩ : ∃ z_, (d0)[k]? = some z_ := ⟨_, List.getElem?_eq_getElem bd⟩
      obtain ⟨gg9, oo9, ec9, ea9, hce9, hre9⟩ := h0.elem hx9
      cases ea9
      obtain ⟨q9_A2, q9_c2, rfl, q9_0, q9_1, q9_2⟩ := open_Commit (x0 := x9.1) (x1 := x9.2.1) (x2 := x9.2.2) hre9
      simp only [inK] at q9_0
      simp only [inK] at q9_1
      have q9_r2 := Rd.room q9_2
      refine VD.y rfl rfl (.inr ⟨_, _, rfl, _, rfl, rfl⟩) (.ixI k rfl rfl tsl61 rfl bd) ?_
      refine VD.y rfl rfl (.inr ⟨_, _, rfl, _, rfl, rfl⟩) (.fa rfl tst52 rfl) ?_
      refine VD.y rfl rfl (.inr ⟨_, _, rfl, _, rfl, rfl⟩) (.ld1 0 rfl tk3 rfl (hce9.at1 (j := 0) rfl)) ?_
      refine VD.y rfl rfl (.inr ⟨_, _, rfl, _, rfl, rfl⟩) (.mv rfl) ?_
      refine VD.y rfl rfl (.inr ⟨_, _, rfl, _, rfl, rfl⟩) (.mv rfl) ?_
      refine VD.y rfl rfl (.inr ⟨_, _, rfl, _, rfl, rfl⟩) (.sub rfl rfl rfl ⟨bd, bd⟩) ?_
      obtain ⟨x10, hx10⟩ : ∃ z_, (d0)[(((k : Nat) : Int) - 1).toNat]? = some z_ := ⟨_, List.getElem?_eq_getElem bd⟩
      obtain ⟨gg10, oo10, ec10, ea10, hce10, hre10⟩ := h0.elem hx10
      cases ea10
      obtain ⟨q10_A2, q10_c2, rfl, q10_0, q10_1, q10_2⟩ := open_Commit (x0 := x10.1) (x1 := x10.2.1) (x2 := x10.2.2) hre10
      simp only [inK] at q10_0
      simp only [inK] at q10_1
      have q10_r2 := Rd.room q10_2
      refine VD.y rfl rfl (.inr ⟨_, _, rfl, _, rfl, rfl⟩) (.ixI ((((k : Nat) : Int) - 1).toNat) rfl rfl tsl61 bd bd) ?_
      refine VD.y rfl rfl (.inr ⟨_, _, rfl, _, rfl, rfl⟩) (.fa rfl tst52 rfl) ?_
      refine VD.y rfl rfl (.inr ⟨_, _, rfl, _, rfl, rfl⟩) (.ld1 0 rfl tk3 rfl (hce10.at1 (j := 0) rfl)) ?_
      refine VD.nil rfl ?_ rfl
      refine VO.gy rfl ⟨_, rfl, rfl⟩ (.neq rfl rfl) ?_
      refine VO.y rfl (.pF rfl rfl) ?_
      refine VO.k6 0 2 3 4 8 26 ?_
      refine outN ?_
      refine VC.cond rfl (fun hc11 => ?_) (fun hc11 => ?_)
      · -- TFT
        refine VC.regD _ 13 [(0, true), (1, true), (2, true), (3, true), (4, true), (5, true), (6, true), (7, true), (8, true), (9, true), (10, true), (11, true), (12, false)] follows (by kernel_rfl) (fun _ h => h.sub [101, 0]) ?_
        refine VD.y rfl rfl (.inl rfl) (.mv rfl) ?_
        refine VD.y rfl rfl (.inl rfl) (.mv rfl) ?_
        refine VD.y rfl rfl (.inl rfl) (.mv rfl) ?_
        refine VD.y rfl rfl (.inl rfl) (.ixI k rfl rfl tsl61 rfl bd) ?_
        refine VD.y rfl rfl (.inl rfl) (.fa rfl tst52 rfl) ?_
        refine VD.y rfl rfl (.inl rfl) (.ld1 0 rfl tk3 rfl (hce9.at1 (j := 0) rfl)) ?_
        refine VD.y rfl rfl (.inl rfl) (.mv rfl) ?_
        refine VD.y rfl rfl (.inl rfl) (.mv rfl) ?_
        refine VD.y rfl rfl (.inl rfl) (.ixI k rfl rfl tsl61 rfl bd) ?_
        refine VD.y rfl rfl (.inl rfl) (.fa rfl tst52 rfl) ?_
        refine VD.y rfl rfl (.inl rfl) (.ld1 0 rfl tk3 rfl (hce9.at1 (j := 1) rfl)) ?_
        refine VD.y rfl rfl (.inl rfl) (.bst (cs := [Value.int .i64 (x9.1), Value.int .i64 (x9.2.1)]) rfl tst90 tz90 rfl) ?_
        refine VD.bsl (cs := [Value.int .i64 (x9.1), Value.int .i64 (x9.2.1)]) 115 rfl rfl rfl tsl70 tz90 rfl rfl (fun _ h => h.sub [101, 0]) (fun g14 => ?_)
        refine VD.nil rfl ?_ rfl
        obtain ⟨mo16, cs16, hM16, hA16, hC16⟩ := h_out
        refine VO.app 101 rfl rfl rfl tsl70 tz90 rfl rfl hM16 hA16 (.row 115 _ _ _ 1 1 _ _ Try.underlying70 rfl (cellsAt_one rfl rfl)) (by simp [Value.oneCell']) bdm bd (by decide) (fun v16 m16 hN16 => ?_)
        have ho16 : OwnL TStart m16 mnil v16 (out ++ [(x9.1, x9.2.1)]) := OwnL.one hC16 hN16 (mk_Start (m := _) x9.1 x9.2.1 bdk bdk)
        obtain ⟨A16, c16, rfl, l16, k16⟩ := ho16.slice
        simp only [maxLen] at k16
        refine VO.as ?_
        refine VO.keep [101, 0] [(101, m16), (0, wm W)] (by kernel_rfl) ?_
        refine VO.k6 0 2 3 4 8 26 ?_
        refine outBN ?_
        refine outN ?_
        refine VC.reg ?_
        refine VO.mv ?_
        refine VO.y rfl (.add (c := ((k + 1 : Nat) : Int)) rfl rfl (by omega) ⟨bd, bd⟩) ?_
        refine VO.as ?_
        refine VO.k6 0 2 3 4 8 26 ?_
        exact outN ⟨⟨k + 1, out ++ [(x9.1, x9.2.1)], A16, c16, m16⟩, ⟨by omega, by first | exact told_same ho (by omega) ‹d0[k]? = some _› (by first | assumption | (rw [show k - 1 = ((k : Int) - 1).toNat from by omega]; assumption)) (Decidable.not_not.1 (by assumption)) | exact told_new ho ‹d0[k]? = some _› (.inl (by omega)) | exact told_new ho ‹d0[k]? = some _› (.inr ⟨_, by first | assumption | (rw [show k - 1 = ((k : Int) - 1).toNat from by omega]; assumption), by assumption⟩), ho16⟩, bd, ⟨⟨rfl, rfl, rfl, rfl, trivial⟩, fun _ h => Inv.sub h [101, 0]⟩⟩
      · -- TFF
        refine VC.skip ?_
        refine outBN ?_
        refine outN ?_
        refine VC.reg ?_
        refine VO.mv ?_
        refine VO.y rfl (.add (c := ((k + 1 : Nat) : Int)) rfl rfl (by omega) ⟨bd, bd⟩) ?_
        refine VO.as ?_
        refine VO.keep [101, 0] [(101, out_m), (0, wm W)] (by kernel_rfl) ?_
        refine VO.k6 0 2 3 4 8 26 ?_
        exact outN ⟨⟨k + 1, out, out_A, out_c, out_m⟩, ⟨by omega, by first | exact told_same ho (by omega) ‹d0[k]? = some _› (by first | assumption | (rw [show k - 1 = ((k : Int) - 1).toNat from by omega]; assumption)) (Decidable.not_not.1 (by assumption)) | exact told_new ho ‹d0[k]? = some _› (.inl (by omega)) | exact told_new ho ‹d0[k]? = some _› (.inr ⟨_, by first | assumption | (rw [show k - 1 = ((k : Int) - 1).toNat from by omega]; assumption), by assumption⟩), h_out⟩, bd, ⟨⟨rfl, rfl, rfl, rfl, trivial⟩, fun _ h => Inv.sub h [101, 0]⟩⟩
  · -- F
    refine VC.exit ?_
    refine outE ?_
    refine outE ?_
    refine outBB ?_
    refine outN ?_
    refine VC.rs ?_
    refine VO.mv ?_
    refine VO.as ?_
    refine VO.k5 0 2 3 4 8 ?_
    refine VC.ret ?_
    refine ⟨_, _, res_run (rs := [.tmp 2]) rfl (.tmp rfl .nil), fun W_ hI => out_of (l := [out_m]) hI [101] rfl rfl (mle_refl _) (fun hS_ => ?_)⟩
    dsimp only [packV]
    have he0 : (d0.foldl sGrown [] : Ty.Den (.sl TStart)) = out := by first | rfl | (rw [ho, List.take_of_length_le (by omega)])
    refine ⟨Value.slice out_A (out.length) (out_c), ?_, ?_⟩
    rotate_left
    · rw [he0]; exact (Ow.up (OwnL.ow h_out rfl) (hS_.1 _ (.head _)))
    all_goals (first | rfl | (simp [*]; done))
theorem of8_ok (W : World) {v0 : Value} {d0 : List DCommit} (h0 : Rd (.sl TCommit) (wm W) [v0] d0) (e0 : d0.length ≤ 8796093020000) : CallR Try.prog 115 [v0] W (mnil) (fun v m' => ∃ (s0 : Value), ∃ (s1 : List Value), v = .tuple #[s0, .agg s1.toArray] ∧ Ow (.sl TStart) m' [s0] ((sOf d0).1) ∧ Ow TFault m' s1 ((sOf d0).2)) := by
  obtain ⟨A0, c0, rfl, l0, k0⟩ := h0.slice
  simp only [maxLen] at k0
  refine CallR.ofA (n := 14) Try.func115 rfl rfl rfl ?_
  refine VC.rs ?_
  refine VO.as ?_
  refine VO.alloc 102 rfl tz57 (fun g1 => ?_)
  refine VO.k3 0 2 3 ?_
  refine VC.rs ?_
  refine VO.mv ?_
  refine VO.callN 103 rfl fnOk54 rfl (fun W hW => c4Follows_ok W 0 bdk 0 bdk (Rd.mono h0 (hW.at (i := 0) rfl))) (fun v3 m3 hv3 => ?_)
  obtain ⟨s3_0, rfl, f3_0⟩ := hv3
  obtain ⟨rfl, q3_0_0, q3_0_1⟩ := open_Fault (x0 := (cFollows 0 0 d0).1) (x1 := (cFollows 0 0 d0).2) (f3_0.rd (mle_refl _))
  simp only [inK] at q3_0_0
  simp only [inK] at q3_0_1
  refine VO.alloc 105 rfl tz57 (fun g4 => ?_)
  refine VO.store (k := 2) (c' := [Value.int .i64 ((cFollows 0 0 d0).1), Value.int .i64 ((cFollows 0 0 d0).2)]) 105 rfl rfl (.inl tk57) rfl rfl rfl rfl rfl ?_
  refine VO.k4 0 2 3 4 ?_
  refine VC.seq ?_
  refine VC.rs ?_
  refine VO.y rfl (.ldA 105 rfl tk57 rfl (cellsAt_one rfl rfl)) ?_
  refine VO.y rfl (.bst (cs := [Value.int .i64 (0), Value.int .i64 (0)]) rfl tst57 tz57 rfl) ?_
  refine VO.y rfl (.stneq (p := ((cFollows 0 0 d0).1) = 0 ∧ ((cFollows 0 0 d0).2) = 0) rfl rfl (teq57 ((cFollows 0 0 d0).1) ((cFollows 0 0 d0).2)) (teq57 0 0) (by simp [ceq, ba_toList])) ?_
  refine VO.keep [105, 102, 0] [(105, mone g4 (.cells [Value.int .i64 ((cFollows 0 0 d0).1), Value.int .i64 ((cFollows 0 0 d0).2)].toArray 57 (0, 0))), (102, mone g1 (.cells [Value.int .i64 (0), Value.int .i64 (0)].toArray 57 (0, 0))), (0, wm W)] (by kernel_rfl) ?_
  refine VO.k5 0 2 3 4 9 ?_
  refine VC.cond rfl (fun hc6 => ?_) (fun hc6 => ?_)
  · -- T
    refine VC.seq ?_
    refine VC.regD _ 2 [(0, true), (1, true)] follows (by kernel_rfl) (fun _ h => h.sub [105, 102, 0]) ?_
    refine VD.y rfl rfl (.inl rfl) (.ldA 105 rfl tk57 rfl (cellsAt_one rfl rfl)) ?_
    refine VD.y rfl rfl (.inl rfl) (.as rfl) ?_
    refine VD.nil rfl ?_ rfl
    refine VO.store (k := 2) (c' := [Value.int .i64 ((cFollows 0 0 d0).1), Value.int .i64 ((cFollows 0 0 d0).2)]) 102 rfl rfl (.inl tk57) rfl rfl rfl rfl rfl ?_
    refine VO.k5 0 2 3 4 9 ?_
    refine outN ?_
    refine VC.ret ?_
    refine outR ?_
    refine ⟨_, _, res_run (rs := [.tmp 2, .cell 3 57]) rfl (.tmp rfl (.agg 102 rfl tk57 rfl ⟨_, _, _, mone_self _ _, Nat.le_of_ble_eq_true rfl, rfl⟩ .nil)), fun W_ hI => out_of (l := []) hI [] rfl rfl (mle_refl _) (fun hS_ => ?_)⟩
    dsimp only [packV]
    have he0 : ((sOf d0).1 : Ty.Den (.sl TStart)) = [] := by first | rfl | (first | (rw [sOf_none (by assumption)] <;> rfl) | (rw [sOf_some (by assumption)] <;> rfl))
    have he1 : ((sOf d0).2 : Ty.Den TFault) = (cFollows 0 0 d0) := by first | rfl | (first | (rw [sOf_none (by assumption)] <;> rfl) | (rw [sOf_some (by assumption)] <;> rfl))
    refine ⟨Value.slice none (0) (0), [Value.int .i64 ((cFollows 0 0 d0).1), Value.int .i64 ((cFollows 0 0 d0).2)], ?_, ?_, ?_⟩
    rotate_left
    · rw [he0]; exact (Ow.nil _ _)
    · rw [he1]; exact (Ow.of (m := mnil) rfl (show Rd TFault _ _ (cFollows 0 0 d0) from (mk_Fault (m := _) ((cFollows 0 0 d0).1) ((cFollows 0 0 d0).2) bdk bdk)))
    all_goals (first | rfl | (simp [*]; done))
  · -- F
    refine VC.skip ?_
    refine outN ?_
    refine VC.seq ?_
    refine VC.regD _ 4 [(0, true), (2, true), (1, false), (3, true)] follows (by kernel_rfl) (fun _ h => h.sub [105, 102, 0]) ?_
    refine VD.y rfl rfl (.inl rfl) (.mv rfl) ?_
    refine VD.y rfl rfl (.inl rfl) (.ldA 105 rfl tk57 rfl (cellsAt_one rfl rfl)) ?_
    refine VD.callN 107 rfl rfl (.inl rfl) fnOk141 rfl (fun _ h => h.sub [105, 102, 0]) (fun W hW => told_ok W (Rd.mono h0 (hW.at (i := 0) rfl)) bd) (fun v7 m7 hv7 => ?_)
    obtain ⟨s7_0, rfl, f7_0⟩ := hv7
    obtain ⟨A7_0, c7_0, eq7_0, l7_0, k7_0⟩ := f7_0.slice
    subst eq7_0
    simp only [maxLen] at k7_0
    refine VD.y rfl rfl (.inl rfl) (.as rfl) ?_
    refine VD.nil rfl ?_ rfl
    refine VO.store (k := 2) (c' := [Value.int .i64 ((cFollows 0 0 d0).1), Value.int .i64 ((cFollows 0 0 d0).2)]) 102 rfl rfl (.inl tk57) rfl rfl rfl rfl rfl ?_
    refine VO.k5 0 2 3 4 9 ?_
    refine outN ?_
    refine VC.ret ?_
    refine ⟨_, _, res_run (rs := [.tmp 2, .cell 3 57]) rfl (.tmp rfl (.agg 102 rfl tk57 rfl ⟨_, _, _, mone_self _ _, Nat.le_of_ble_eq_true rfl, rfl⟩ .nil)), fun W_ hI => out_of (l := [m7]) hI [107] rfl rfl (mle_refl _) (fun hS_ => ?_)⟩
    dsimp only [packV]
    have he0 : ((sOf d0).1 : Ty.Den (.sl TStart)) = d0.foldl sGrown [] := by first | rfl | (first | (rw [sOf_none (by assumption)] <;> rfl) | (rw [sOf_some (by assumption)] <;> rfl))
    have he1 : ((sOf d0).2 : Ty.Den TFault) = (cFollows 0 0 d0) := by first | rfl | (first | (rw [sOf_none (by assumption)] <;> rfl) | (rw [sOf_some (by assumption)] <;> rfl))
    refine ⟨Value.slice A7_0 ((d0.foldl sGrown []).length) (c7_0), [Value.int .i64 ((cFollows 0 0 d0).1), Value.int .i64 ((cFollows 0 0 d0).2)], ?_, ?_, ?_⟩
    rotate_left
    · rw [he0]; exact (Ow.up (OwnL.ow (Ow.ownl f7_0 rfl mnil) rfl) (hS_.1 _ (.head _)))
    · rw [he1]; exact (Ow.of (m := mnil) rfl (show Rd TFault _ _ (cFollows 0 0 d0) from (mk_Fault (m := _) ((cFollows 0 0 d0).1) ((cFollows 0 0 d0).2) bdk bdk)))
    all_goals (first | rfl | (simp [*]; done))
theorem log17_ok (W : World) (d0 : Int) (h0 : inK .i64 d0) {v1 : Value} {d1 : List DCommit} (h1 : Rd (.sl TCommit) (wm W) [v1] d1) : CallR Try.prog 114 [.int .i64 d0, v1] W (mnil) (fun v m' => v = .int .i64 (shipWrong d0 d1)) := by
  have h0' := h0; simp only [inK] at h0'
  obtain ⟨A1, c1, rfl, l1, k1⟩ := h1.slice
  simp only [maxLen] at k1
  refine CallR.ofA (n := 33) Try.func114 rfl rfl rfl ?_
  refine VC.rs ?_
  refine VO.as ?_
  refine VO.k3 0 1 4 ?_
  refine VC.seq ?_
  refine VC.rs ?_
  refine VO.mv ?_
  refine VO.y rfl (.lss rfl rfl) ?_
  refine VO.mv ?_
  refine VO.dec (t := 8) rfl (fun hc1 => ?_) (fun hc1 => ?_)
  · -- T
    refine VO.gN ?_
    refine VO.gN ?_
    refine VO.y rfl (.pT rfl rfl) ?_
    refine VO.k4 0 1 4 11 ?_
    refine VC.condT rfl ?_
    refine VC.rs ?_
    refine VO.as ?_
    refine VO.keep [0] [(0, wm W)] (by kernel_rfl) ?_
    refine VO.k4 0 1 4 11 ?_
    refine VC.ret ?_
    refine outR ?_
    refine ⟨_, _, res_run (rs := [.tmp 4]) rfl (.tmp rfl .nil), fun W_ hI => out_of (l := []) hI [] rfl rfl (mle_refl _) (fun hS_ => ?_)⟩
    dsimp only [packV]
    all_goals (first | rfl | (congr 1; first | exact (wrong_arg (by omega)).symm | exact (log_follows (by omega) (by omega) (by assumption)).symm | (have hz_ := Decidable.not_not.1 ‹¬ ¬ ((cFollows 0 0 d1).1 = 0 ∧ _)›; first | exact (wrong_order (by omega) (by omega) (fun q => q hz_.1) ‹d1[_]? = some _› (by omega) (by omega)).symm | exact (wrong_good (by omega) (by omega) (fun q => q hz_.1) ‹d1[_]? = some _› (by omega) (by omega)).symm | exact (wrong_none (by omega) (by omega) (fun q => q hz_.1) (by omega)).symm)))
  · -- F
    refine VO.gy rfl ⟨_, rfl, rfl⟩ (.mv rfl) ?_
    refine VO.gy rfl ⟨_, rfl, rfl⟩ (.gtr rfl rfl) ?_
    refine VO.y rfl (.pF rfl rfl) ?_
    refine VO.k4 0 1 4 11 ?_
    refine VC.cond rfl (fun hc2 => ?_) (fun hc2 => ?_)
    · -- FT
      refine VC.rs ?_
      refine VO.as ?_
      refine VO.keep [0] [(0, wm W)] (by kernel_rfl) ?_
      refine VO.k4 0 1 4 11 ?_
      refine VC.ret ?_
      refine outR ?_
      refine ⟨_, _, res_run (rs := [.tmp 4]) rfl (.tmp rfl .nil), fun W_ hI => out_of (l := []) hI [] rfl rfl (mle_refl _) (fun hS_ => ?_)⟩
      dsimp only [packV]
      all_goals (first | rfl | (congr 1; first | exact (wrong_arg (by omega)).symm | exact (log_follows (by omega) (by omega) (by assumption)).symm | (have hz_ := Decidable.not_not.1 ‹¬ ¬ ((cFollows 0 0 d1).1 = 0 ∧ _)›; first | exact (wrong_order (by omega) (by omega) (fun q => q hz_.1) ‹d1[_]? = some _› (by omega) (by omega)).symm | exact (wrong_good (by omega) (by omega) (fun q => q hz_.1) ‹d1[_]? = some _› (by omega) (by omega)).symm | exact (wrong_none (by omega) (by omega) (fun q => q hz_.1) (by omega)).symm)))
    · -- FF
      refine VC.skip ?_
      refine outN ?_
      refine VC.rs ?_
      refine VO.mv ?_
      refine VO.callN 103 rfl fnOk54 rfl (fun W hW => c4Follows_ok W 0 bdk 0 bdk (Rd.mono h1 (hW.at (i := 0) rfl))) (fun v3 m3 hv3 => ?_)
      obtain ⟨s3_0, rfl, f3_0⟩ := hv3
      obtain ⟨rfl, q3_0_0, q3_0_1⟩ := open_Fault (x0 := (cFollows 0 0 d1).1) (x1 := (cFollows 0 0 d1).2) (f3_0.rd (mle_refl _))
      simp only [inK] at q3_0_0
      simp only [inK] at q3_0_1
      refine VO.alloc 105 rfl tz57 (fun g4 => ?_)
      refine VO.store (k := 2) (c' := [Value.int .i64 ((cFollows 0 0 d1).1), Value.int .i64 ((cFollows 0 0 d1).2)]) 105 rfl rfl (.inl tk57) rfl rfl rfl rfl rfl ?_
      refine VO.keep [105, 0] [(105, mone g4 (.cells [Value.int .i64 ((cFollows 0 0 d1).1), Value.int .i64 ((cFollows 0 0 d1).2)].toArray 57 (0, 0))), (0, wm W)] (by kernel_rfl) ?_
      refine VO.k5 0 1 4 5 11 ?_
      refine VC.seq ?_
      refine VC.rs ?_
      refine VO.y rfl (.ldA 105 rfl tk57 rfl (cellsAt_one rfl rfl)) ?_
      refine VO.y rfl (.bst (cs := [Value.int .i64 (0), Value.int .i64 (0)]) rfl tst57 tz57 rfl) ?_
      refine VO.y rfl (.stneq (p := ((cFollows 0 0 d1).1) = 0 ∧ ((cFollows 0 0 d1).2) = 0) rfl rfl (teq57 ((cFollows 0 0 d1).1) ((cFollows 0 0 d1).2)) (teq57 0 0) (by simp [ceq, ba_toList])) ?_
      refine VO.k6 0 1 4 5 11 16 ?_
      refine VC.cond rfl (fun hc6 => ?_) (fun hc6 => ?_)
      · -- FFT
        refine VC.rs ?_
        refine VO.y rfl (.fa rfl tst57 rfl) ?_
        refine VO.y rfl (.ld1 105 rfl tk26 rfl (cellsAt_one rfl rfl)) ?_
        refine VO.as ?_
        refine VO.k6 0 1 4 5 11 16 ?_
        refine VC.ret ?_
        refine outR ?_
        refine ⟨_, _, res_run (rs := [.tmp 4]) rfl (.tmp rfl .nil), fun W_ hI => out_of (l := []) hI [] rfl rfl (mle_refl _) (fun hS_ => ?_)⟩
        dsimp only [packV]
        all_goals (first | rfl | (congr 1; first | exact (wrong_arg (by omega)).symm | exact (log_follows (by omega) (by omega) (by assumption)).symm | (have hz_ := Decidable.not_not.1 ‹¬ ¬ ((cFollows 0 0 d1).1 = 0 ∧ _)›; first | exact (wrong_order (by omega) (by omega) (fun q => q hz_.1) ‹d1[_]? = some _› (by omega) (by omega)).symm | exact (wrong_good (by omega) (by omega) (fun q => q hz_.1) ‹d1[_]? = some _› (by omega) (by omega)).symm | exact (wrong_none (by omega) (by omega) (fun q => q hz_.1) (by omega)).symm)))
      · -- FFF
        refine VC.skip ?_
        refine outN ?_
        refine VC.seq ?_
        refine VC.rs ?_
        refine VO.mv ?_
        refine VO.y rfl (.lenS rfl tsl61) ?_
        refine VO.y rfl (.gtr rfl rfl) ?_
        refine VO.mv ?_
        refine VO.dec (t := 22) rfl (fun hc7 => ?_) (fun hc7 => ?_)
        · -- FFFT
          refine VO.gy rfl ⟨_, rfl, rfl⟩ (.mv rfl) ?_
          refine VO.gy rfl ⟨_, rfl, rfl⟩ (.mv rfl) ?_
          refine VO.gy rfl ⟨_, rfl, rfl⟩ (.lenS rfl tsl61) ?_
          refine VO.gy rfl ⟨_, rfl, rfl⟩ (.sub rfl rfl rfl ⟨bd, bd⟩) ?_
          obtain ⟨x8, hx8⟩ : ∃ z_, (d1)[(((d1.length : Nat) : Int) - 1).toNat]? = some z_ := ⟨_, List.getElem?_eq_getElem bd⟩
          obtain ⟨gg8, oo8, ec8, ea8, hce8, hre8⟩ := h1.elem hx8
          cases ea8
          obtain ⟨q8_A2, q8_c2, rfl, q8_0, q8_1, q8_2⟩ := open_Commit (x0 := x8.1) (x1 := x8.2.1) (x2 := x8.2.2) hre8
          simp only [inK] at q8_0
          simp only [inK] at q8_1
          have q8_r2 := Rd.room q8_2
          refine VO.gy rfl ⟨_, rfl, rfl⟩ (.ixI ((((d1.length : Nat) : Int) - 1).toNat) rfl rfl tsl61 bd bd) ?_
          refine VO.gy rfl ⟨_, rfl, rfl⟩ (.fa rfl tst52 rfl) ?_
          refine VO.gy rfl ⟨_, rfl, rfl⟩ (.ld1 0 rfl tk3 rfl (hce8.at1 (j := 0) rfl)) ?_
          refine VO.gy rfl ⟨_, rfl, rfl⟩ (.mv rfl) ?_
          refine VO.gy rfl ⟨_, rfl, rfl⟩ (.gtr rfl rfl) ?_
          refine VO.y rfl (.pT rfl rfl) ?_
          refine VO.k7 0 1 4 5 11 16 32 ?_
          refine VC.cond rfl (fun hc9 => ?_) (fun hc9 => ?_)
          · -- FFFTT
            refine VC.rs ?_
            refine VO.as ?_
            refine VO.keep [105, 0] [(105, mone g4 (.cells [Value.int .i64 ((cFollows 0 0 d1).1), Value.int .i64 ((cFollows 0 0 d1).2)].toArray 57 (0, 0))), (0, wm W)] (by kernel_rfl) ?_
            refine VO.k7 0 1 4 5 11 16 32 ?_
            refine VC.ret ?_
            refine outR ?_
            refine ⟨_, _, res_run (rs := [.tmp 4]) rfl (.tmp rfl .nil), fun W_ hI => out_of (l := []) hI [] rfl rfl (mle_refl _) (fun hS_ => ?_)⟩
            dsimp only [packV]
            all_goals (first | rfl | (congr 1; first | exact (wrong_arg (by omega)).symm | exact (log_follows (by omega) (by omega) (by assumption)).symm | (have hz_ := Decidable.not_not.1 ‹¬ ¬ ((cFollows 0 0 d1).1 = 0 ∧ _)›; first | exact (wrong_order (by omega) (by omega) (fun q => q hz_.1) ‹d1[_]? = some _› (by omega) (by omega)).symm | exact (wrong_good (by omega) (by omega) (fun q => q hz_.1) ‹d1[_]? = some _› (by omega) (by omega)).symm | exact (wrong_none (by omega) (by omega) (fun q => q hz_.1) (by omega)).symm)))
          · -- FFFTF
            refine VC.skip ?_
            refine outN ?_
            refine VC.rs ?_
            refine VO.as ?_
            refine VO.keep [105, 0] [(105, mone g4 (.cells [Value.int .i64 ((cFollows 0 0 d1).1), Value.int .i64 ((cFollows 0 0 d1).2)].toArray 57 (0, 0))), (0, wm W)] (by kernel_rfl) ?_
            refine VO.k7 0 1 4 5 11 16 32 ?_
            refine VC.ret ?_
            refine ⟨_, _, res_run (rs := [.tmp 4]) rfl (.tmp rfl .nil), fun W_ hI => out_of (l := []) hI [] rfl rfl (mle_refl _) (fun hS_ => ?_)⟩
            dsimp only [packV]
            all_goals (first | rfl | (congr 1; first | exact (wrong_arg (by omega)).symm | exact (log_follows (by omega) (by omega) (by assumption)).symm | (have hz_ := Decidable.not_not.1 ‹¬ ¬ ((cFollows 0 0 d1).1 = 0 ∧ _)›; first | exact (wrong_order (by omega) (by omega) (fun q => q hz_.1) ‹d1[_]? = some _› (by omega) (by omega)).symm | exact (wrong_good (by omega) (by omega) (fun q => q hz_.1) ‹d1[_]? = some _› (by omega) (by omega)).symm | exact (wrong_none (by omega) (by omega) (fun q => q hz_.1) (by omega)).symm)))
        · -- FFFF
          refine VO.gN ?_
          refine VO.gN ?_
          refine VO.gN ?_
          refine VO.gN ?_
          refine VO.gN ?_
          refine VO.gN ?_
          refine VO.gN ?_
          refine VO.gN ?_
          refine VO.gN ?_
          refine VO.y rfl (.pF rfl rfl) ?_
          refine VO.k7 0 1 4 5 11 16 32 ?_
          refine VC.condF rfl ?_
          refine VC.skip ?_
          refine outN ?_
          refine VC.rs ?_
          refine VO.as ?_
          refine VO.keep [105, 0] [(105, mone g4 (.cells [Value.int .i64 ((cFollows 0 0 d1).1), Value.int .i64 ((cFollows 0 0 d1).2)].toArray 57 (0, 0))), (0, wm W)] (by kernel_rfl) ?_
          refine VO.k7 0 1 4 5 11 16 32 ?_
          refine VC.ret ?_
          refine ⟨_, _, res_run (rs := [.tmp 4]) rfl (.tmp rfl .nil), fun W_ hI => out_of (l := []) hI [] rfl rfl (mle_refl _) (fun hS_ => ?_)⟩
          dsimp only [packV]
          all_goals (first | rfl | (congr 1; first | exact (wrong_arg (by omega)).symm | exact (log_follows (by omega) (by omega) (by assumption)).symm | (have hz_ := Decidable.not_not.1 ‹¬ ¬ ((cFollows 0 0 d1).1 = 0 ∧ _)›; first | exact (wrong_order (by omega) (by omega) (fun q => q hz_.1) ‹d1[_]? = some _› (by omega) (by omega)).symm | exact (wrong_good (by omega) (by omega) (fun q => q hz_.1) ‹d1[_]? = some _› (by omega) (by omega)).symm | exact (wrong_none (by omega) (by omega) (fun q => q hz_.1) (by omega)).symm)))
theorem hello17_ok (W : World) (d0 : Int) (h0 : inK .i64 d0) (d1 : Int) (h1 : inK .u8 d1) {v2 : Value} {d2 : List DCommit} (h2 : Rd (.sl TCommit) (wm W) [v2] d2) (e0 : d2.length ≤ 8796093020000) : CallR Try.prog 73 [.int .i64 d0, .int .u8 d1, v2] W (mnil) (fun v m' => ∃ (s0 : List Value), v = .tuple #[.agg s0.toArray, .int .i64 ((shipHello d0 d1 d2).2)] ∧ Ow TMessage m' s0 ((shipHello d0 d1 d2).1)) := by
  have h0' := h0; simp only [inK] at h0'
  have h1' := h1; simp only [inK] at h1'
  obtain ⟨A2, c2, rfl, l2, k2⟩ := h2.slice
  simp only [maxLen] at k2
  refine CallR.ofA (n := 36) Try.func73 rfl rfl rfl ?_
  refine VC.rs ?_
  refine VO.alloc 102 rfl tz72 (fun g1 => ?_)
  refine VO.as ?_
  refine VO.k5 0 1 2 6 7 ?_
  refine VC.rs ?_
  refine VO.mv ?_
  refine VO.mv ?_
  refine VO.callN 103 rfl fnOk114 rfl (fun W hW => log17_ok W d0 bdk (Rd.mono h2 (hW.at (i := 0) rfl))) (fun v3 m3 hv3 => ?_)
  subst hv3
  have hfa4 := shipWrong_range d0 d2
  refine VO.as ?_
  refine VO.k6 0 1 2 6 7 8 ?_
  refine VC.seq ?_
  refine VC.rs ?_
  refine VO.mv ?_
  refine VO.y rfl (.neq rfl rfl) ?_
  refine VO.keep [102, 0] [(102, mone g1 (.cells [Value.int .i64 (0), Value.int .i64 (0), Value.int .u8 (0), Value.int .i64 (0), Value.slice none (0) (0), Value.int .i64 (0), Value.int .i64 (0), Value.slice none (0) (0)].toArray 72 (0, 0))), (0, wm W)] (by kernel_rfl) ?_
  refine VO.k7 0 1 2 6 7 8 15 ?_
  refine VC.cond rfl (fun hc5 => ?_) (fun hc5 => ?_)
  · -- T
    refine VC.rs ?_
    refine VO.y rfl (.bst (cs := [Value.int .i64 (0), Value.int .i64 (0), Value.int .u8 (0), Value.int .i64 (0), Value.slice none (0) (0), Value.int .i64 (0), Value.int .i64 (0), Value.slice none (0) (0)]) rfl tst72 tz72 rfl) ?_
    refine VO.mv ?_
    refine VO.store (k := 8) (c' := [Value.int .i64 (0), Value.int .i64 (0), Value.int .u8 (0), Value.int .i64 (0), Value.slice none (0) (0), Value.int .i64 (0), Value.int .i64 (0), Value.slice none (0) (0)]) 102 rfl rfl (.inl tk72) rfl rfl rfl rfl rfl ?_
    refine VO.as ?_
    refine VO.k7 0 1 2 6 7 8 15 ?_
    refine VC.ret ?_
    refine outR ?_
    refine ⟨_, _, res_run (rs := [.cell 6 72, .tmp 7]) rfl (.agg 102 rfl tk72 rfl ⟨_, _, _, mone_self _ _, Nat.le_of_ble_eq_true rfl, rfl⟩ (.tmp rfl .nil)), fun W_ hI => out_of (l := []) hI [] rfl rfl (mle_refl _) (fun hS_ => ?_)⟩
    dsimp only [packV]
    have he0 : ((shipHello d0 d1 d2).1 : Ty.Den TMessage) = (0, 0, 0, 0, [], 0, 0, []) := by first | rfl | (first | (rw [hello_wrong ‹_›]; rfl) | (rw [hello_arg ‹¬ ¬ _› (by omega)]; rfl) | rw [hello_good ‹¬ ¬ _› (by omega) (by omega)])
    refine ⟨[Value.int .i64 (0), Value.int .i64 (0), Value.int .u8 (0), Value.int .i64 (0), Value.slice none (0) (0), Value.int .i64 (0), Value.int .i64 (0), Value.slice none (0) (0)], ?_, ?_⟩
    rotate_left
    · rw [he0]; exact (mkO_Message 0 0 0 0 [] 0 0 [] (Seps.nilAt 1 (Seps.nilAt 0 hS_)) bdk bdk bdk bdk (Ow.nil _ _) bdk bdk (Ow.nil _ _))
    all_goals (first | rfl | (first | (rw [hello_wrong ‹_›]; rfl) | (rw [hello_arg ‹¬ ¬ _› (by omega)]; rfl) | (rw [hello_good ‹¬ ¬ _› (by omega) (by omega)]; rfl)))
  · -- F
    refine VC.skip ?_
    refine outN ?_
    refine VC.seq ?_
    refine VC.rs ?_
    refine VO.mv ?_
    refine VO.y rfl (.lss rfl rfl) ?_
    refine VO.mv ?_
    refine VO.dec (t := 20) rfl (fun hc6 => ?_) (fun hc6 => ?_)
    · -- FT
      refine VO.gN ?_
      refine VO.gN ?_
      refine VO.y rfl (.pT rfl rfl) ?_
      refine VO.k8 0 1 2 6 7 8 15 23 ?_
      refine VC.condT rfl ?_
      refine VC.rs ?_
      refine VO.y rfl (.bst (cs := [Value.int .i64 (0), Value.int .i64 (0), Value.int .u8 (0), Value.int .i64 (0), Value.slice none (0) (0), Value.int .i64 (0), Value.int .i64 (0), Value.slice none (0) (0)]) rfl tst72 tz72 rfl) ?_
      refine VO.store (k := 8) (c' := [Value.int .i64 (0), Value.int .i64 (0), Value.int .u8 (0), Value.int .i64 (0), Value.slice none (0) (0), Value.int .i64 (0), Value.int .i64 (0), Value.slice none (0) (0)]) 102 rfl rfl (.inl tk72) rfl rfl rfl rfl rfl ?_
      refine VO.as ?_
      refine VO.k8 0 1 2 6 7 8 15 23 ?_
      refine VC.ret ?_
      refine outR ?_
      refine ⟨_, _, res_run (rs := [.cell 6 72, .tmp 7]) rfl (.agg 102 rfl tk72 rfl ⟨_, _, _, mone_self _ _, Nat.le_of_ble_eq_true rfl, rfl⟩ (.tmp rfl .nil)), fun W_ hI => out_of (l := []) hI [] rfl rfl (mle_refl _) (fun hS_ => ?_)⟩
      dsimp only [packV]
      have he0 : ((shipHello d0 d1 d2).1 : Ty.Den TMessage) = (0, 0, 0, 0, [], 0, 0, []) := by first | rfl | (first | (rw [hello_wrong ‹_›]; rfl) | (rw [hello_arg ‹¬ ¬ _› (by omega)]; rfl) | rw [hello_good ‹¬ ¬ _› (by omega) (by omega)])
      refine ⟨[Value.int .i64 (0), Value.int .i64 (0), Value.int .u8 (0), Value.int .i64 (0), Value.slice none (0) (0), Value.int .i64 (0), Value.int .i64 (0), Value.slice none (0) (0)], ?_, ?_⟩
      rotate_left
      · rw [he0]; exact (mkO_Message 0 0 0 0 [] 0 0 [] (Seps.nilAt 1 (Seps.nilAt 0 hS_)) bdk bdk bdk bdk (Ow.nil _ _) bdk bdk (Ow.nil _ _))
      all_goals (first | rfl | (first | (rw [hello_wrong ‹_›]; rfl) | (rw [hello_arg ‹¬ ¬ _› (by omega)]; rfl) | (rw [hello_good ‹¬ ¬ _› (by omega) (by omega)]; rfl)))
    · -- FF
      refine VO.gy rfl ⟨_, rfl, rfl⟩ (.mv rfl) ?_
      refine VO.gy rfl ⟨_, rfl, rfl⟩ (.gtr rfl rfl) ?_
      refine VO.y rfl (.pF rfl rfl) ?_
      refine VO.k8 0 1 2 6 7 8 15 23 ?_
      refine VC.cond rfl (fun hc7 => ?_) (fun hc7 => ?_)
      · -- FFT
        refine VC.rs ?_
        refine VO.y rfl (.bst (cs := [Value.int .i64 (0), Value.int .i64 (0), Value.int .u8 (0), Value.int .i64 (0), Value.slice none (0) (0), Value.int .i64 (0), Value.int .i64 (0), Value.slice none (0) (0)]) rfl tst72 tz72 rfl) ?_
        refine VO.store (k := 8) (c' := [Value.int .i64 (0), Value.int .i64 (0), Value.int .u8 (0), Value.int .i64 (0), Value.slice none (0) (0), Value.int .i64 (0), Value.int .i64 (0), Value.slice none (0) (0)]) 102 rfl rfl (.inl tk72) rfl rfl rfl rfl rfl ?_
        refine VO.as ?_
        refine VO.k8 0 1 2 6 7 8 15 23 ?_
        refine VC.ret ?_
        refine outR ?_
        refine ⟨_, _, res_run (rs := [.cell 6 72, .tmp 7]) rfl (.agg 102 rfl tk72 rfl ⟨_, _, _, mone_self _ _, Nat.le_of_ble_eq_true rfl, rfl⟩ (.tmp rfl .nil)), fun W_ hI => out_of (l := []) hI [] rfl rfl (mle_refl _) (fun hS_ => ?_)⟩
        dsimp only [packV]
        have he0 : ((shipHello d0 d1 d2).1 : Ty.Den TMessage) = (0, 0, 0, 0, [], 0, 0, []) := by first | rfl | (first | (rw [hello_wrong ‹_›]; rfl) | (rw [hello_arg ‹¬ ¬ _› (by omega)]; rfl) | rw [hello_good ‹¬ ¬ _› (by omega) (by omega)])
        refine ⟨[Value.int .i64 (0), Value.int .i64 (0), Value.int .u8 (0), Value.int .i64 (0), Value.slice none (0) (0), Value.int .i64 (0), Value.int .i64 (0), Value.slice none (0) (0)], ?_, ?_⟩
        rotate_left
        · rw [he0]; exact (mkO_Message 0 0 0 0 [] 0 0 [] (Seps.nilAt 1 (Seps.nilAt 0 hS_)) bdk bdk bdk bdk (Ow.nil _ _) bdk bdk (Ow.nil _ _))
        all_goals (first | rfl | (first | (rw [hello_wrong ‹_›]; rfl) | (rw [hello_arg ‹¬ ¬ _› (by omega)]; rfl) | (rw [hello_good ‹¬ ¬ _› (by omega) (by omega)]; rfl)))
      · -- FFF
        refine VC.skip ?_
        refine outN ?_
        refine VC.rs ?_
        refine VO.mv ?_
        refine VO.callN 108 rfl fnOk115 rfl (fun W hW => of8_ok W (Rd.mono h2 (hW.at (i := 0) rfl)) bd) (fun v8 m8 hv8 => ?_)
        obtain ⟨s8_0, s8_1, rfl, f8_0, f8_1⟩ := hv8
        obtain ⟨A8_0, c8_0, eq8_0, l8_0, k8_0⟩ := f8_0.slice
        subst eq8_0
        simp only [maxLen] at k8_0
        obtain ⟨rfl, q8_1_0, q8_1_1⟩ := open_Fault (x0 := ((sOf d2).2).1) (x1 := ((sOf d2).2).2) (f8_1.rd (mle_refl _))
        simp only [inK] at q8_1_0
        simp only [inK] at q8_1_1
        refine VO.mv ?_
        refine VO.y rfl (.ext rfl rfl) ?_
        refine VO.y rfl (.ext rfl rfl) ?_
        refine VO.alloc 110 rfl tz57 (fun g9 => ?_)
        refine VO.as ?_
        refine VO.store (k := 2) (c' := [Value.int .i64 (((sOf d2).2).1), Value.int .i64 (((sOf d2).2).2)]) 110 rfl rfl (.inl tk57) rfl rfl rfl rfl rfl ?_
        refine VO.k9 0 1 2 6 7 8 9 15 23 ?_
        refine VC.rs ?_
        refine VO.mv ?_
        refine VO.mv ?_
        refine VO.mv ?_
        refine VO.y rfl (.lenS rfl tsl61) ?_
        refine VO.mv ?_
        refine VO.y rfl (.bst (cs := [Value.int .i64 (1), Value.int .i64 (d0), Value.int .u8 (d1), Value.int .i64 (((d2.length : Nat) : Int)), Value.slice A8_0 (((sOf d2).1).length) (c8_0), Value.int .i64 (0), Value.int .i64 (0), Value.slice none (0) (0)]) rfl tst72 tz72 rfl) ?_
        refine VO.store (k := 8) (c' := [Value.int .i64 (1), Value.int .i64 (d0), Value.int .u8 (d1), Value.int .i64 (((d2.length : Nat) : Int)), Value.slice A8_0 (((sOf d2).1).length) (c8_0), Value.int .i64 (0), Value.int .i64 (0), Value.slice none (0) (0)]) 102 rfl rfl (.inl tk72) rfl rfl rfl rfl rfl ?_
        refine VO.as ?_
        refine VO.keep [108, 102, 0] [(108, m8), (102, mone g1 (.cells [Value.int .i64 (1), Value.int .i64 (d0), Value.int .u8 (d1), Value.int .i64 (((d2.length : Nat) : Int)), Value.slice A8_0 (((sOf d2).1).length) (c8_0), Value.int .i64 (0), Value.int .i64 (0), Value.slice none (0) (0)].toArray 72 (0, 0))), (0, wm W)] (by kernel_rfl) ?_
        refine VO.k9 0 1 2 6 7 8 9 15 23 ?_
        refine VC.ret ?_
        refine ⟨_, _, res_run (rs := [.cell 6 72, .tmp 7]) rfl (.agg 102 rfl tk72 rfl ⟨_, _, _, mone_self _ _, Nat.le_of_ble_eq_true rfl, rfl⟩ (.tmp rfl .nil)), fun W_ hI => out_of (l := [m8]) hI [108] rfl rfl (mle_refl _) (fun hS_ => ?_)⟩
        dsimp only [packV]
        have he0 : ((shipHello d0 d1 d2).1 : Ty.Den TMessage) = (1, d0, d1, ((d2.length : Nat) : Int), (sOf d2).1, 0, 0, []) := by first | rfl | (first | (rw [hello_wrong ‹_›]; rfl) | (rw [hello_arg ‹¬ ¬ _› (by omega)]; rfl) | rw [hello_good ‹¬ ¬ _› (by omega) (by omega)])
        refine ⟨[Value.int .i64 (1), Value.int .i64 (d0), Value.int .u8 (d1), Value.int .i64 (((d2.length : Nat) : Int)), Value.slice A8_0 (((sOf d2).1).length) (c8_0), Value.int .i64 (0), Value.int .i64 (0), Value.slice none (0) (0)], ?_, ?_⟩
        rotate_left
        · rw [he0]; exact (mkO_Message 1 d0 d1 ((d2.length : Nat) : Int) ((sOf d2).1) 0 0 [] (Seps.nilAt 1 hS_) bdk bdk bdk bdk (OwnL.ow (Ow.ownl f8_0 rfl mnil) rfl) bdk bdk (Ow.nil _ _))
        all_goals (first | rfl | (first | (rw [hello_wrong ‹_›]; rfl) | (rw [hello_arg ‹¬ ¬ _› (by omega)]; rfl) | (rw [hello_good ‹¬ ¬ _› (by omega) (by omega)]; rfl)))
theorem ack17_ok (W : World) (d0 : Int) (h0 : inK .i64 d0) (d1 : Int) (h1 : inK .i64 d1) : CallR Try.prog 75 [.int .i64 d0, .int .i64 d1] W (mnil) (fun v m' => ∃ (s0 : List Value), v = .tuple #[.agg s0.toArray, .int .i64 ((shipAck d0 d1).2)] ∧ Ow TMessage m' s0 ((shipAck d0 d1).1)) := by
  have h0' := h0; simp only [inK] at h0'
  have h1' := h1; simp only [inK] at h1'
  refine CallR.ofA (n := 24) Try.func75 rfl rfl rfl ?_
  refine VC.rs ?_
  refine VO.alloc 102 rfl tz72 (fun g1 => ?_)
  refine VO.as ?_
  refine VO.k4 0 1 4 5 ?_
  refine VC.seq ?_
  refine VC.rs ?_
  refine VO.mv ?_
  refine VO.y rfl (.lss rfl rfl) ?_
  refine VO.mv ?_
  refine VO.dec (t := 8) rfl (fun hc3 => ?_) (fun hc3 => ?_)
  · -- T
    refine VO.gN ?_
    refine VO.gN ?_
    refine VO.y rfl (.pT rfl rfl) ?_
    refine VO.mv ?_
    refine VO.gN ?_
    refine VO.gN ?_
    refine VO.y rfl (.pT rfl rfl) ?_
    refine VO.mv ?_
    refine VO.gN ?_
    refine VO.gN ?_
    refine VO.y rfl (.pT rfl rfl) ?_
    refine VO.k5 0 1 4 5 19 ?_
    refine VC.condT rfl ?_
    refine VC.rs ?_
    refine VO.y rfl (.bst (cs := [Value.int .i64 (0), Value.int .i64 (0), Value.int .u8 (0), Value.int .i64 (0), Value.slice none (0) (0), Value.int .i64 (0), Value.int .i64 (0), Value.slice none (0) (0)]) rfl tst72 tz72 rfl) ?_
    refine VO.store (k := 8) (c' := [Value.int .i64 (0), Value.int .i64 (0), Value.int .u8 (0), Value.int .i64 (0), Value.slice none (0) (0), Value.int .i64 (0), Value.int .i64 (0), Value.slice none (0) (0)]) 102 rfl rfl (.inl tk72) rfl rfl rfl rfl rfl ?_
    refine VO.as ?_
    refine VO.keep [102, 0] [(102, mone g1 (.cells [Value.int .i64 (0), Value.int .i64 (0), Value.int .u8 (0), Value.int .i64 (0), Value.slice none (0) (0), Value.int .i64 (0), Value.int .i64 (0), Value.slice none (0) (0)].toArray 72 (0, 0))), (0, wm W)] (by kernel_rfl) ?_
    refine VO.k5 0 1 4 5 19 ?_
    refine VC.ret ?_
    refine outR ?_
    refine ⟨_, _, res_run (rs := [.cell 4 72, .tmp 5]) rfl (.agg 102 rfl tk72 rfl ⟨_, _, _, mone_self _ _, Nat.le_of_ble_eq_true rfl, rfl⟩ (.tmp rfl .nil)), fun W_ hI => out_of (l := []) hI [] rfl rfl (mle_refl _) (fun hS_ => ?_)⟩
    dsimp only [packV]
    have he0 : ((shipAck d0 d1).1 : Ty.Den TMessage) = (0, 0, 0, 0, [], 0, 0, []) := by first | rfl | (first | (rw [ack_bad (by omega)]; rfl) | rw [ack_good (by omega) (by omega) (by omega) (by omega)])
    refine ⟨[Value.int .i64 (0), Value.int .i64 (0), Value.int .u8 (0), Value.int .i64 (0), Value.slice none (0) (0), Value.int .i64 (0), Value.int .i64 (0), Value.slice none (0) (0)], ?_, ?_⟩
    rotate_left
    · rw [he0]; exact (mkO_Message 0 0 0 0 [] 0 0 [] (Seps.nilAt 1 (Seps.nilAt 0 hS_)) bdk bdk bdk bdk (Ow.nil _ _) bdk bdk (Ow.nil _ _))
    all_goals (first | rfl | (first | (rw [ack_bad (by omega)]; rfl) | (rw [ack_good (by omega) (by omega) (by omega) (by omega)]; rfl)))
  · -- F
    refine VO.gy rfl ⟨_, rfl, rfl⟩ (.mv rfl) ?_
    refine VO.gy rfl ⟨_, rfl, rfl⟩ (.gtr rfl rfl) ?_
    refine VO.y rfl (.pF rfl rfl) ?_
    refine VO.mv ?_
    refine VO.dec (t := 12) rfl (fun hc4 => ?_) (fun hc4 => ?_)
    · -- FT
      refine VO.gN ?_
      refine VO.gN ?_
      refine VO.y rfl (.pT rfl rfl) ?_
      refine VO.mv ?_
      refine VO.gN ?_
      refine VO.gN ?_
      refine VO.y rfl (.pT rfl rfl) ?_
      refine VO.k5 0 1 4 5 19 ?_
      refine VC.condT rfl ?_
      refine VC.rs ?_
      refine VO.y rfl (.bst (cs := [Value.int .i64 (0), Value.int .i64 (0), Value.int .u8 (0), Value.int .i64 (0), Value.slice none (0) (0), Value.int .i64 (0), Value.int .i64 (0), Value.slice none (0) (0)]) rfl tst72 tz72 rfl) ?_
      refine VO.store (k := 8) (c' := [Value.int .i64 (0), Value.int .i64 (0), Value.int .u8 (0), Value.int .i64 (0), Value.slice none (0) (0), Value.int .i64 (0), Value.int .i64 (0), Value.slice none (0) (0)]) 102 rfl rfl (.inl tk72) rfl rfl rfl rfl rfl ?_
      refine VO.as ?_
      refine VO.keep [102, 0] [(102, mone g1 (.cells [Value.int .i64 (0), Value.int .i64 (0), Value.int .u8 (0), Value.int .i64 (0), Value.slice none (0) (0), Value.int .i64 (0), Value.int .i64 (0), Value.slice none (0) (0)].toArray 72 (0, 0))), (0, wm W)] (by kernel_rfl) ?_
      refine VO.k5 0 1 4 5 19 ?_
      refine VC.ret ?_
      refine outR ?_
      refine ⟨_, _, res_run (rs := [.cell 4 72, .tmp 5]) rfl (.agg 102 rfl tk72 rfl ⟨_, _, _, mone_self _ _, Nat.le_of_ble_eq_true rfl, rfl⟩ (.tmp rfl .nil)), fun W_ hI => out_of (l := []) hI [] rfl rfl (mle_refl _) (fun hS_ => ?_)⟩
      dsimp only [packV]
      have he0 : ((shipAck d0 d1).1 : Ty.Den TMessage) = (0, 0, 0, 0, [], 0, 0, []) := by first | rfl | (first | (rw [ack_bad (by omega)]; rfl) | rw [ack_good (by omega) (by omega) (by omega) (by omega)])
      refine ⟨[Value.int .i64 (0), Value.int .i64 (0), Value.int .u8 (0), Value.int .i64 (0), Value.slice none (0) (0), Value.int .i64 (0), Value.int .i64 (0), Value.slice none (0) (0)], ?_, ?_⟩
      rotate_left
      · rw [he0]; exact (mkO_Message 0 0 0 0 [] 0 0 [] (Seps.nilAt 1 (Seps.nilAt 0 hS_)) bdk bdk bdk bdk (Ow.nil _ _) bdk bdk (Ow.nil _ _))
      all_goals (first | rfl | (first | (rw [ack_bad (by omega)]; rfl) | (rw [ack_good (by omega) (by omega) (by omega) (by omega)]; rfl)))
    · -- FF
      refine VO.gy rfl ⟨_, rfl, rfl⟩ (.mv rfl) ?_
      refine VO.gy rfl ⟨_, rfl, rfl⟩ (.lss rfl rfl) ?_
      refine VO.y rfl (.pF rfl rfl) ?_
      refine VO.mv ?_
      refine VO.dec (t := 16) rfl (fun hc5 => ?_) (fun hc5 => ?_)
      · -- FFT
        refine VO.gN ?_
        refine VO.gN ?_
        refine VO.y rfl (.pT rfl rfl) ?_
        refine VO.k5 0 1 4 5 19 ?_
        refine VC.condT rfl ?_
        refine VC.rs ?_
        refine VO.y rfl (.bst (cs := [Value.int .i64 (0), Value.int .i64 (0), Value.int .u8 (0), Value.int .i64 (0), Value.slice none (0) (0), Value.int .i64 (0), Value.int .i64 (0), Value.slice none (0) (0)]) rfl tst72 tz72 rfl) ?_
        refine VO.store (k := 8) (c' := [Value.int .i64 (0), Value.int .i64 (0), Value.int .u8 (0), Value.int .i64 (0), Value.slice none (0) (0), Value.int .i64 (0), Value.int .i64 (0), Value.slice none (0) (0)]) 102 rfl rfl (.inl tk72) rfl rfl rfl rfl rfl ?_
        refine VO.as ?_
        refine VO.keep [102, 0] [(102, mone g1 (.cells [Value.int .i64 (0), Value.int .i64 (0), Value.int .u8 (0), Value.int .i64 (0), Value.slice none (0) (0), Value.int .i64 (0), Value.int .i64 (0), Value.slice none (0) (0)].toArray 72 (0, 0))), (0, wm W)] (by kernel_rfl) ?_
        refine VO.k5 0 1 4 5 19 ?_
        refine VC.ret ?_
        refine outR ?_
        refine ⟨_, _, res_run (rs := [.cell 4 72, .tmp 5]) rfl (.agg 102 rfl tk72 rfl ⟨_, _, _, mone_self _ _, Nat.le_of_ble_eq_true rfl, rfl⟩ (.tmp rfl .nil)), fun W_ hI => out_of (l := []) hI [] rfl rfl (mle_refl _) (fun hS_ => ?_)⟩
        dsimp only [packV]
        have he0 : ((shipAck d0 d1).1 : Ty.Den TMessage) = (0, 0, 0, 0, [], 0, 0, []) := by first | rfl | (first | (rw [ack_bad (by omega)]; rfl) | rw [ack_good (by omega) (by omega) (by omega) (by omega)])
        refine ⟨[Value.int .i64 (0), Value.int .i64 (0), Value.int .u8 (0), Value.int .i64 (0), Value.slice none (0) (0), Value.int .i64 (0), Value.int .i64 (0), Value.slice none (0) (0)], ?_, ?_⟩
        rotate_left
        · rw [he0]; exact (mkO_Message 0 0 0 0 [] 0 0 [] (Seps.nilAt 1 (Seps.nilAt 0 hS_)) bdk bdk bdk bdk (Ow.nil _ _) bdk bdk (Ow.nil _ _))
        all_goals (first | rfl | (first | (rw [ack_bad (by omega)]; rfl) | (rw [ack_good (by omega) (by omega) (by omega) (by omega)]; rfl)))
      · -- FFF
        refine VO.gy rfl ⟨_, rfl, rfl⟩ (.mv rfl) ?_
        refine VO.gy rfl ⟨_, rfl, rfl⟩ (.gtr rfl rfl) ?_
        refine VO.y rfl (.pF rfl rfl) ?_
        refine VO.k5 0 1 4 5 19 ?_
        refine VC.cond rfl (fun hc6 => ?_) (fun hc6 => ?_)
        · -- FFFT
          refine VC.rs ?_
          refine VO.y rfl (.bst (cs := [Value.int .i64 (0), Value.int .i64 (0), Value.int .u8 (0), Value.int .i64 (0), Value.slice none (0) (0), Value.int .i64 (0), Value.int .i64 (0), Value.slice none (0) (0)]) rfl tst72 tz72 rfl) ?_
          refine VO.store (k := 8) (c' := [Value.int .i64 (0), Value.int .i64 (0), Value.int .u8 (0), Value.int .i64 (0), Value.slice none (0) (0), Value.int .i64 (0), Value.int .i64 (0), Value.slice none (0) (0)]) 102 rfl rfl (.inl tk72) rfl rfl rfl rfl rfl ?_
          refine VO.as ?_
          refine VO.keep [102, 0] [(102, mone g1 (.cells [Value.int .i64 (0), Value.int .i64 (0), Value.int .u8 (0), Value.int .i64 (0), Value.slice none (0) (0), Value.int .i64 (0), Value.int .i64 (0), Value.slice none (0) (0)].toArray 72 (0, 0))), (0, wm W)] (by kernel_rfl) ?_
          refine VO.k5 0 1 4 5 19 ?_
          refine VC.ret ?_
          refine outR ?_
          refine ⟨_, _, res_run (rs := [.cell 4 72, .tmp 5]) rfl (.agg 102 rfl tk72 rfl ⟨_, _, _, mone_self _ _, Nat.le_of_ble_eq_true rfl, rfl⟩ (.tmp rfl .nil)), fun W_ hI => out_of (l := []) hI [] rfl rfl (mle_refl _) (fun hS_ => ?_)⟩
          dsimp only [packV]
          have he0 : ((shipAck d0 d1).1 : Ty.Den TMessage) = (0, 0, 0, 0, [], 0, 0, []) := by first | rfl | (first | (rw [ack_bad (by omega)]; rfl) | rw [ack_good (by omega) (by omega) (by omega) (by omega)])
          refine ⟨[Value.int .i64 (0), Value.int .i64 (0), Value.int .u8 (0), Value.int .i64 (0), Value.slice none (0) (0), Value.int .i64 (0), Value.int .i64 (0), Value.slice none (0) (0)], ?_, ?_⟩
          rotate_left
          · rw [he0]; exact (mkO_Message 0 0 0 0 [] 0 0 [] (Seps.nilAt 1 (Seps.nilAt 0 hS_)) bdk bdk bdk bdk (Ow.nil _ _) bdk bdk (Ow.nil _ _))
          all_goals (first | rfl | (first | (rw [ack_bad (by omega)]; rfl) | (rw [ack_good (by omega) (by omega) (by omega) (by omega)]; rfl)))
        · -- FFFF
          refine VC.skip ?_
          refine outN ?_
          refine VC.rs ?_
          refine VO.mv ?_
          refine VO.mv ?_
          refine VO.y rfl (.bst (cs := [Value.int .i64 (3), Value.int .i64 (d0), Value.int .u8 (0), Value.int .i64 (d1), Value.slice none (0) (0), Value.int .i64 (0), Value.int .i64 (0), Value.slice none (0) (0)]) rfl tst72 tz72 rfl) ?_
          refine VO.store (k := 8) (c' := [Value.int .i64 (3), Value.int .i64 (d0), Value.int .u8 (0), Value.int .i64 (d1), Value.slice none (0) (0), Value.int .i64 (0), Value.int .i64 (0), Value.slice none (0) (0)]) 102 rfl rfl (.inl tk72) rfl rfl rfl rfl rfl ?_
          refine VO.as ?_
          refine VO.keep [102, 0] [(102, mone g1 (.cells [Value.int .i64 (3), Value.int .i64 (d0), Value.int .u8 (0), Value.int .i64 (d1), Value.slice none (0) (0), Value.int .i64 (0), Value.int .i64 (0), Value.slice none (0) (0)].toArray 72 (0, 0))), (0, wm W)] (by kernel_rfl) ?_
          refine VO.k5 0 1 4 5 19 ?_
          refine VC.ret ?_
          refine ⟨_, _, res_run (rs := [.cell 4 72, .tmp 5]) rfl (.agg 102 rfl tk72 rfl ⟨_, _, _, mone_self _ _, Nat.le_of_ble_eq_true rfl, rfl⟩ (.tmp rfl .nil)), fun W_ hI => out_of (l := []) hI [] rfl rfl (mle_refl _) (fun hS_ => ?_)⟩
          dsimp only [packV]
          have he0 : ((shipAck d0 d1).1 : Ty.Den TMessage) = (3, d0, 0, d1, [], 0, 0, []) := by first | rfl | (first | (rw [ack_bad (by omega)]; rfl) | rw [ack_good (by omega) (by omega) (by omega) (by omega)])
          refine ⟨[Value.int .i64 (3), Value.int .i64 (d0), Value.int .u8 (0), Value.int .i64 (d1), Value.slice none (0) (0), Value.int .i64 (0), Value.int .i64 (0), Value.slice none (0) (0)], ?_, ?_⟩
          rotate_left
          · rw [he0]; exact (mkO_Message 3 d0 0 d1 [] 0 0 [] (Seps.nilAt 1 (Seps.nilAt 0 hS_)) bdk bdk bdk bdk (Ow.nil _ _) bdk bdk (Ow.nil _ _))
          all_goals (first | rfl | (first | (rw [ack_bad (by omega)]; rfl) | (rw [ack_good (by omega) (by omega) (by omega) (by omega)]; rfl)))
theorem next17_ok (W : World) (d0 : Int) (h0 : inK .i64 d0) {v1 : Value} {d1 : List DCommit} (h1 : Rd (.sl TCommit) (wm W) [v1] d1) (d2 : Int) (h2 : inK .i64 d2) : CallR Try.prog 74 [.int .i64 d0, v1, .int .i64 d2] W (mnil) (fun v m' => ∃ (s0 : List Value), v = .tuple #[.agg s0.toArray, .int .i64 ((shipNext d0 d1 d2).2)] ∧ Ow TMessage m' s0 ((shipNext d0 d1 d2).1)) := by
  have h0' := h0; simp only [inK] at h0'
  obtain ⟨A1, c1, rfl, l1, k1⟩ := h1.slice
  simp only [maxLen] at k1
  have h2' := h2; simp only [inK] at h2'
  refine CallR.ofA (n := 68) Try.func74 rfl rfl rfl ?_
  refine VC.rs ?_
  refine VO.alloc 102 rfl tz72 (fun g1 => ?_)
  refine VO.as ?_
  refine VO.k5 0 1 2 6 7 ?_
  refine VC.rs ?_
  refine VO.mv ?_
  refine VO.mv ?_
  refine VO.callN 103 rfl fnOk114 rfl (fun W hW => log17_ok W d0 (by simp only [inK]; (first | omega | (simp only [List.length_append, List.length_nil, List.length_cons, List.length_take, List.length_drop] at *; omega) | (have := wrong_len ‹¬ ¬ shipWrong d0 d1 = 0›; omega) | (have h_ := follows_room (wrong_follow ‹¬ ¬ shipWrong d0 d1 = 0›) _ (List.mem_of_getElem? ‹d1[a.toNat]? = some _›); omega))) (Rd.mono h1 (hW.at (i := 0) rfl))) (fun v3 m3 hv3 => ?_)
  subst hv3
  have hfa4 := shipWrong_range d0 d1
  refine VO.as ?_
  refine VO.k6 0 1 2 6 7 8 ?_
  refine VC.seq ?_
  refine VC.rs ?_
  refine VO.mv ?_
  refine VO.y rfl (.neq rfl rfl) ?_
  refine VO.keep [102, 0] [(102, mone g1 (.cells [Value.int .i64 (0), Value.int .i64 (0), Value.int .u8 (0), Value.int .i64 (0), Value.slice none (0) (0), Value.int .i64 (0), Value.int .i64 (0), Value.slice none (0) (0)].toArray 72 (0, 0))), (0, wm W)] (by kernel_rfl) ?_
  refine VO.k7 0 1 2 6 7 8 15 ?_
  refine VC.cond rfl (fun hc5 => ?_) (fun hc5 => ?_)
  · -- T
    refine VC.rs ?_
    refine VO.y rfl (.bst (cs := [Value.int .i64 (0), Value.int .i64 (0), Value.int .u8 (0), Value.int .i64 (0), Value.slice none (0) (0), Value.int .i64 (0), Value.int .i64 (0), Value.slice none (0) (0)]) rfl tst72 tz72 rfl) ?_
    refine VO.mv ?_
    refine VO.store (k := 8) (c' := [Value.int .i64 (0), Value.int .i64 (0), Value.int .u8 (0), Value.int .i64 (0), Value.slice none (0) (0), Value.int .i64 (0), Value.int .i64 (0), Value.slice none (0) (0)]) 102 rfl rfl (.inl tk72) rfl rfl rfl rfl rfl ?_
    refine VO.as ?_
    refine VO.k7 0 1 2 6 7 8 15 ?_
    refine VC.ret ?_
    refine outR ?_
    refine ⟨_, _, res_run (rs := [.cell 6 72, .tmp 7]) rfl (.agg 102 rfl tk72 rfl ⟨_, _, _, mone_self _ _, Nat.le_of_ble_eq_true rfl, rfl⟩ (.tmp rfl .nil)), fun W_ hI => out_of (l := []) hI [] rfl rfl (mle_refl _) (fun hS_ => ?_)⟩
    dsimp only [packV]
    have he0 : ((shipNext d0 d1 d2).1 : Ty.Den TMessage) = (0, 0, 0, 0, [], 0, 0, []) := by first | rfl | (first | (rw [next_wrong (by assumption)]; rfl) | (rw [next_arg (by assumption) (by omega)]; rfl) | (have hcs2 := next_end hcs (by omega) ia h4 (by omega); rw [next_good (by assumption) (by omega) (by omega) (by omega), ← hcs2]; first | rw [prevOf_pos (by assumption) (by assumption)] | rw [prevOf_zero (by assumption)]))
    refine ⟨[Value.int .i64 (0), Value.int .i64 (0), Value.int .u8 (0), Value.int .i64 (0), Value.slice none (0) (0), Value.int .i64 (0), Value.int .i64 (0), Value.slice none (0) (0)], ?_, ?_⟩
    rotate_left
    · rw [he0]; exact (mkO_Message 0 0 0 0 [] 0 0 [] (Seps.nilAt 1 (Seps.nilAt 0 hS_)) (by simp only [inK]; (first | omega | (simp only [List.length_append, List.length_nil, List.length_cons, List.length_take, List.length_drop] at *; omega) | (have := wrong_len ‹¬ ¬ shipWrong d0 d1 = 0›; omega) | (have h_ := follows_room (wrong_follow ‹¬ ¬ shipWrong d0 d1 = 0›) _ (List.mem_of_getElem? ‹d1[a.toNat]? = some _›); omega))) (by simp only [inK]; (first | omega | (simp only [List.length_append, List.length_nil, List.length_cons, List.length_take, List.length_drop] at *; omega) | (have := wrong_len ‹¬ ¬ shipWrong d0 d1 = 0›; omega) | (have h_ := follows_room (wrong_follow ‹¬ ¬ shipWrong d0 d1 = 0›) _ (List.mem_of_getElem? ‹d1[a.toNat]? = some _›); omega))) (by simp only [inK]; (first | omega | (simp only [List.length_append, List.length_nil, List.length_cons, List.length_take, List.length_drop] at *; omega) | (have := wrong_len ‹¬ ¬ shipWrong d0 d1 = 0›; omega) | (have h_ := follows_room (wrong_follow ‹¬ ¬ shipWrong d0 d1 = 0›) _ (List.mem_of_getElem? ‹d1[a.toNat]? = some _›); omega))) (by simp only [inK]; (first | omega | (simp only [List.length_append, List.length_nil, List.length_cons, List.length_take, List.length_drop] at *; omega) | (have := wrong_len ‹¬ ¬ shipWrong d0 d1 = 0›; omega) | (have h_ := follows_room (wrong_follow ‹¬ ¬ shipWrong d0 d1 = 0›) _ (List.mem_of_getElem? ‹d1[a.toNat]? = some _›); omega))) (Ow.nil _ _) (by simp only [inK]; (first | omega | (simp only [List.length_append, List.length_nil, List.length_cons, List.length_take, List.length_drop] at *; omega) | (have := wrong_len ‹¬ ¬ shipWrong d0 d1 = 0›; omega) | (have h_ := follows_room (wrong_follow ‹¬ ¬ shipWrong d0 d1 = 0›) _ (List.mem_of_getElem? ‹d1[a.toNat]? = some _›); omega))) (by simp only [inK]; (first | omega | (simp only [List.length_append, List.length_nil, List.length_cons, List.length_take, List.length_drop] at *; omega) | (have := wrong_len ‹¬ ¬ shipWrong d0 d1 = 0›; omega) | (have h_ := follows_room (wrong_follow ‹¬ ¬ shipWrong d0 d1 = 0›) _ (List.mem_of_getElem? ‹d1[a.toNat]? = some _›); omega))) (Ow.nil _ _))
    all_goals (first | rfl | (first | (rw [next_wrong (by assumption)]; rfl) | (rw [next_arg (by assumption) (by omega)]; rfl) | (rw [next_good (by assumption) (by omega) (by omega) (by omega)]; rfl)))
  · -- F
    refine VC.skip ?_
    refine outN ?_
    refine VC.seq ?_
    refine VC.rs ?_
    refine VO.mv ?_
    refine VO.y rfl (.lss rfl rfl) ?_
    refine VO.mv ?_
    refine VO.dec (t := 20) rfl (fun hc6 => ?_) (fun hc6 => ?_)
    · -- FT
      refine VO.gN ?_
      refine VO.gN ?_
      refine VO.gN ?_
      refine VO.gN ?_
      refine VO.y rfl (.pT rfl rfl) ?_
      refine VO.mv ?_
      refine VO.gN ?_
      refine VO.gN ?_
      refine VO.y rfl (.pT rfl rfl) ?_
      refine VO.k8 0 1 2 6 7 8 15 29 ?_
      refine VC.condT rfl ?_
      refine VC.rs ?_
      refine VO.y rfl (.bst (cs := [Value.int .i64 (0), Value.int .i64 (0), Value.int .u8 (0), Value.int .i64 (0), Value.slice none (0) (0), Value.int .i64 (0), Value.int .i64 (0), Value.slice none (0) (0)]) rfl tst72 tz72 rfl) ?_
      refine VO.store (k := 8) (c' := [Value.int .i64 (0), Value.int .i64 (0), Value.int .u8 (0), Value.int .i64 (0), Value.slice none (0) (0), Value.int .i64 (0), Value.int .i64 (0), Value.slice none (0) (0)]) 102 rfl rfl (.inl tk72) rfl rfl rfl rfl rfl ?_
      refine VO.as ?_
      refine VO.k8 0 1 2 6 7 8 15 29 ?_
      refine VC.ret ?_
      refine outR ?_
      refine ⟨_, _, res_run (rs := [.cell 6 72, .tmp 7]) rfl (.agg 102 rfl tk72 rfl ⟨_, _, _, mone_self _ _, Nat.le_of_ble_eq_true rfl, rfl⟩ (.tmp rfl .nil)), fun W_ hI => out_of (l := []) hI [] rfl rfl (mle_refl _) (fun hS_ => ?_)⟩
      dsimp only [packV]
      have he0 : ((shipNext d0 d1 d2).1 : Ty.Den TMessage) = (0, 0, 0, 0, [], 0, 0, []) := by first | rfl | (first | (rw [next_wrong (by assumption)]; rfl) | (rw [next_arg (by assumption) (by omega)]; rfl) | (have hcs2 := next_end hcs (by omega) ia h4 (by omega); rw [next_good (by assumption) (by omega) (by omega) (by omega), ← hcs2]; first | rw [prevOf_pos (by assumption) (by assumption)] | rw [prevOf_zero (by assumption)]))
      refine ⟨[Value.int .i64 (0), Value.int .i64 (0), Value.int .u8 (0), Value.int .i64 (0), Value.slice none (0) (0), Value.int .i64 (0), Value.int .i64 (0), Value.slice none (0) (0)], ?_, ?_⟩
      rotate_left
      · rw [he0]; exact (mkO_Message 0 0 0 0 [] 0 0 [] (Seps.nilAt 1 (Seps.nilAt 0 hS_)) (by simp only [inK]; (first | omega | (simp only [List.length_append, List.length_nil, List.length_cons, List.length_take, List.length_drop] at *; omega) | (have := wrong_len ‹¬ ¬ shipWrong d0 d1 = 0›; omega) | (have h_ := follows_room (wrong_follow ‹¬ ¬ shipWrong d0 d1 = 0›) _ (List.mem_of_getElem? ‹d1[a.toNat]? = some _›); omega))) (by simp only [inK]; (first | omega | (simp only [List.length_append, List.length_nil, List.length_cons, List.length_take, List.length_drop] at *; omega) | (have := wrong_len ‹¬ ¬ shipWrong d0 d1 = 0›; omega) | (have h_ := follows_room (wrong_follow ‹¬ ¬ shipWrong d0 d1 = 0›) _ (List.mem_of_getElem? ‹d1[a.toNat]? = some _›); omega))) (by simp only [inK]; (first | omega | (simp only [List.length_append, List.length_nil, List.length_cons, List.length_take, List.length_drop] at *; omega) | (have := wrong_len ‹¬ ¬ shipWrong d0 d1 = 0›; omega) | (have h_ := follows_room (wrong_follow ‹¬ ¬ shipWrong d0 d1 = 0›) _ (List.mem_of_getElem? ‹d1[a.toNat]? = some _›); omega))) (by simp only [inK]; (first | omega | (simp only [List.length_append, List.length_nil, List.length_cons, List.length_take, List.length_drop] at *; omega) | (have := wrong_len ‹¬ ¬ shipWrong d0 d1 = 0›; omega) | (have h_ := follows_room (wrong_follow ‹¬ ¬ shipWrong d0 d1 = 0›) _ (List.mem_of_getElem? ‹d1[a.toNat]? = some _›); omega))) (Ow.nil _ _) (by simp only [inK]; (first | omega | (simp only [List.length_append, List.length_nil, List.length_cons, List.length_take, List.length_drop] at *; omega) | (have := wrong_len ‹¬ ¬ shipWrong d0 d1 = 0›; omega) | (have h_ := follows_room (wrong_follow ‹¬ ¬ shipWrong d0 d1 = 0›) _ (List.mem_of_getElem? ‹d1[a.toNat]? = some _›); omega))) (by simp only [inK]; (first | omega | (simp only [List.length_append, List.length_nil, List.length_cons, List.length_take, List.length_drop] at *; omega) | (have := wrong_len ‹¬ ¬ shipWrong d0 d1 = 0›; omega) | (have h_ := follows_room (wrong_follow ‹¬ ¬ shipWrong d0 d1 = 0›) _ (List.mem_of_getElem? ‹d1[a.toNat]? = some _›); omega))) (Ow.nil _ _))
      all_goals (first | rfl | (first | (rw [next_wrong (by assumption)]; rfl) | (rw [next_arg (by assumption) (by omega)]; rfl) | (rw [next_good (by assumption) (by omega) (by omega) (by omega)]; rfl)))
    · -- FF
      refine VO.gy rfl ⟨_, rfl, rfl⟩ (.mv rfl) ?_
      refine VO.gy rfl ⟨_, rfl, rfl⟩ (.mv rfl) ?_
      refine VO.gy rfl ⟨_, rfl, rfl⟩ (.lenS rfl tsl61) ?_
      refine VO.gy rfl ⟨_, rfl, rfl⟩ (.gtr rfl rfl) ?_
      refine VO.y rfl (.pF rfl rfl) ?_
      refine VO.mv ?_
      refine VO.dec (t := 26) rfl (fun hc7 => ?_) (fun hc7 => ?_)
      · -- FFT
        refine VO.gN ?_
        refine VO.gN ?_
        refine VO.y rfl (.pT rfl rfl) ?_
        refine VO.k8 0 1 2 6 7 8 15 29 ?_
        refine VC.condT rfl ?_
        refine VC.rs ?_
        refine VO.y rfl (.bst (cs := [Value.int .i64 (0), Value.int .i64 (0), Value.int .u8 (0), Value.int .i64 (0), Value.slice none (0) (0), Value.int .i64 (0), Value.int .i64 (0), Value.slice none (0) (0)]) rfl tst72 tz72 rfl) ?_
        refine VO.store (k := 8) (c' := [Value.int .i64 (0), Value.int .i64 (0), Value.int .u8 (0), Value.int .i64 (0), Value.slice none (0) (0), Value.int .i64 (0), Value.int .i64 (0), Value.slice none (0) (0)]) 102 rfl rfl (.inl tk72) rfl rfl rfl rfl rfl ?_
        refine VO.as ?_
        refine VO.k8 0 1 2 6 7 8 15 29 ?_
        refine VC.ret ?_
        refine outR ?_
        refine ⟨_, _, res_run (rs := [.cell 6 72, .tmp 7]) rfl (.agg 102 rfl tk72 rfl ⟨_, _, _, mone_self _ _, Nat.le_of_ble_eq_true rfl, rfl⟩ (.tmp rfl .nil)), fun W_ hI => out_of (l := []) hI [] rfl rfl (mle_refl _) (fun hS_ => ?_)⟩
        dsimp only [packV]
        have he0 : ((shipNext d0 d1 d2).1 : Ty.Den TMessage) = (0, 0, 0, 0, [], 0, 0, []) := by first | rfl | (first | (rw [next_wrong (by assumption)]; rfl) | (rw [next_arg (by assumption) (by omega)]; rfl) | (have hcs2 := next_end hcs (by omega) ia h4 (by omega); rw [next_good (by assumption) (by omega) (by omega) (by omega), ← hcs2]; first | rw [prevOf_pos (by assumption) (by assumption)] | rw [prevOf_zero (by assumption)]))
        refine ⟨[Value.int .i64 (0), Value.int .i64 (0), Value.int .u8 (0), Value.int .i64 (0), Value.slice none (0) (0), Value.int .i64 (0), Value.int .i64 (0), Value.slice none (0) (0)], ?_, ?_⟩
        rotate_left
        · rw [he0]; exact (mkO_Message 0 0 0 0 [] 0 0 [] (Seps.nilAt 1 (Seps.nilAt 0 hS_)) (by simp only [inK]; (first | omega | (simp only [List.length_append, List.length_nil, List.length_cons, List.length_take, List.length_drop] at *; omega) | (have := wrong_len ‹¬ ¬ shipWrong d0 d1 = 0›; omega) | (have h_ := follows_room (wrong_follow ‹¬ ¬ shipWrong d0 d1 = 0›) _ (List.mem_of_getElem? ‹d1[a.toNat]? = some _›); omega))) (by simp only [inK]; (first | omega | (simp only [List.length_append, List.length_nil, List.length_cons, List.length_take, List.length_drop] at *; omega) | (have := wrong_len ‹¬ ¬ shipWrong d0 d1 = 0›; omega) | (have h_ := follows_room (wrong_follow ‹¬ ¬ shipWrong d0 d1 = 0›) _ (List.mem_of_getElem? ‹d1[a.toNat]? = some _›); omega))) (by simp only [inK]; (first | omega | (simp only [List.length_append, List.length_nil, List.length_cons, List.length_take, List.length_drop] at *; omega) | (have := wrong_len ‹¬ ¬ shipWrong d0 d1 = 0›; omega) | (have h_ := follows_room (wrong_follow ‹¬ ¬ shipWrong d0 d1 = 0›) _ (List.mem_of_getElem? ‹d1[a.toNat]? = some _›); omega))) (by simp only [inK]; (first | omega | (simp only [List.length_append, List.length_nil, List.length_cons, List.length_take, List.length_drop] at *; omega) | (have := wrong_len ‹¬ ¬ shipWrong d0 d1 = 0›; omega) | (have h_ := follows_room (wrong_follow ‹¬ ¬ shipWrong d0 d1 = 0›) _ (List.mem_of_getElem? ‹d1[a.toNat]? = some _›); omega))) (Ow.nil _ _) (by simp only [inK]; (first | omega | (simp only [List.length_append, List.length_nil, List.length_cons, List.length_take, List.length_drop] at *; omega) | (have := wrong_len ‹¬ ¬ shipWrong d0 d1 = 0›; omega) | (have h_ := follows_room (wrong_follow ‹¬ ¬ shipWrong d0 d1 = 0›) _ (List.mem_of_getElem? ‹d1[a.toNat]? = some _›); omega))) (by simp only [inK]; (first | omega | (simp only [List.length_append, List.length_nil, List.length_cons, List.length_take, List.length_drop] at *; omega) | (have := wrong_len ‹¬ ¬ shipWrong d0 d1 = 0›; omega) | (have h_ := follows_room (wrong_follow ‹¬ ¬ shipWrong d0 d1 = 0›) _ (List.mem_of_getElem? ‹d1[a.toNat]? = some _›); omega))) (Ow.nil _ _))
        all_goals (first | rfl | (first | (rw [next_wrong (by assumption)]; rfl) | (rw [next_arg (by assumption) (by omega)]; rfl) | (rw [next_good (by assumption) (by omega) (by omega) (by omega)]; rfl)))
      · -- FFF
        refine VO.gy rfl ⟨_, rfl, rfl⟩ (.mv rfl) ?_
        refine VO.gy rfl ⟨_, rfl, rfl⟩ (.eql rfl rfl) ?_
        refine VO.y rfl (.pF rfl rfl) ?_
        refine VO.k8 0 1 2 6 7 8 15 29 ?_
        refine VC.cond rfl (fun hc8 => ?_) (fun hc8 => ?_)
        · -- FFFT
          refine VC.rs ?_
          refine VO.y rfl (.bst (cs := [Value.int .i64 (0), Value.int .i64 (0), Value.int .u8 (0), Value.int .i64 (0), Value.slice none (0) (0), Value.int .i64 (0), Value.int .i64 (0), Value.slice none (0) (0)]) rfl tst72 tz72 rfl) ?_
          refine VO.store (k := 8) (c' := [Value.int .i64 (0), Value.int .i64 (0), Value.int .u8 (0), Value.int .i64 (0), Value.slice none (0) (0), Value.int .i64 (0), Value.int .i64 (0), Value.slice none (0) (0)]) 102 rfl rfl (.inl tk72) rfl rfl rfl rfl rfl ?_
          refine VO.as ?_
          refine VO.k8 0 1 2 6 7 8 15 29 ?_
          refine VC.ret ?_
          refine outR ?_
          refine ⟨_, _, res_run (rs := [.cell 6 72, .tmp 7]) rfl (.agg 102 rfl tk72 rfl ⟨_, _, _, mone_self _ _, Nat.le_of_ble_eq_true rfl, rfl⟩ (.tmp rfl .nil)), fun W_ hI => out_of (l := []) hI [] rfl rfl (mle_refl _) (fun hS_ => ?_)⟩
          dsimp only [packV]
          have he0 : ((shipNext d0 d1 d2).1 : Ty.Den TMessage) = (0, 0, 0, 0, [], 0, 0, []) := by first | rfl | (first | (rw [next_wrong (by assumption)]; rfl) | (rw [next_arg (by assumption) (by omega)]; rfl) | (have hcs2 := next_end hcs (by omega) ia h4 (by omega); rw [next_good (by assumption) (by omega) (by omega) (by omega), ← hcs2]; first | rw [prevOf_pos (by assumption) (by assumption)] | rw [prevOf_zero (by assumption)]))
          refine ⟨[Value.int .i64 (0), Value.int .i64 (0), Value.int .u8 (0), Value.int .i64 (0), Value.slice none (0) (0), Value.int .i64 (0), Value.int .i64 (0), Value.slice none (0) (0)], ?_, ?_⟩
          rotate_left
          · rw [he0]; exact (mkO_Message 0 0 0 0 [] 0 0 [] (Seps.nilAt 1 (Seps.nilAt 0 hS_)) (by simp only [inK]; (first | omega | (simp only [List.length_append, List.length_nil, List.length_cons, List.length_take, List.length_drop] at *; omega) | (have := wrong_len ‹¬ ¬ shipWrong d0 d1 = 0›; omega) | (have h_ := follows_room (wrong_follow ‹¬ ¬ shipWrong d0 d1 = 0›) _ (List.mem_of_getElem? ‹d1[a.toNat]? = some _›); omega))) (by simp only [inK]; (first | omega | (simp only [List.length_append, List.length_nil, List.length_cons, List.length_take, List.length_drop] at *; omega) | (have := wrong_len ‹¬ ¬ shipWrong d0 d1 = 0›; omega) | (have h_ := follows_room (wrong_follow ‹¬ ¬ shipWrong d0 d1 = 0›) _ (List.mem_of_getElem? ‹d1[a.toNat]? = some _›); omega))) (by simp only [inK]; (first | omega | (simp only [List.length_append, List.length_nil, List.length_cons, List.length_take, List.length_drop] at *; omega) | (have := wrong_len ‹¬ ¬ shipWrong d0 d1 = 0›; omega) | (have h_ := follows_room (wrong_follow ‹¬ ¬ shipWrong d0 d1 = 0›) _ (List.mem_of_getElem? ‹d1[a.toNat]? = some _›); omega))) (by simp only [inK]; (first | omega | (simp only [List.length_append, List.length_nil, List.length_cons, List.length_take, List.length_drop] at *; omega) | (have := wrong_len ‹¬ ¬ shipWrong d0 d1 = 0›; omega) | (have h_ := follows_room (wrong_follow ‹¬ ¬ shipWrong d0 d1 = 0›) _ (List.mem_of_getElem? ‹d1[a.toNat]? = some _›); omega))) (Ow.nil _ _) (by simp only [inK]; (first | omega | (simp only [List.length_append, List.length_nil, List.length_cons, List.length_take, List.length_drop] at *; omega) | (have := wrong_len ‹¬ ¬ shipWrong d0 d1 = 0›; omega) | (have h_ := follows_room (wrong_follow ‹¬ ¬ shipWrong d0 d1 = 0›) _ (List.mem_of_getElem? ‹d1[a.toNat]? = some _›); omega))) (by simp only [inK]; (first | omega | (simp only [List.length_append, List.length_nil, List.length_cons, List.length_take, List.length_drop] at *; omega) | (have := wrong_len ‹¬ ¬ shipWrong d0 d1 = 0›; omega) | (have h_ := follows_room (wrong_follow ‹¬ ¬ shipWrong d0 d1 = 0›) _ (List.mem_of_getElem? ‹d1[a.toNat]? = some _›); omega))) (Ow.nil _ _))
          all_goals (first | rfl | (first | (rw [next_wrong (by assumption)]; rfl) | (rw [next_arg (by assumption) (by omega)]; rfl) | (rw [next_good (by assumption) (by omega) (by omega) (by omega)]; rfl)))
        · -- FFFF
          refine VC.skip ?_
          refine outN ?_
          refine VC.rs ?_
          refine VO.mv ?_
          refine VO.mv ?_
          refine VO.y rfl (.add rfl rfl rfl ⟨by first | omega | (simp only [List.length_append, List.length_nil, List.length_cons, List.length_take, List.length_drop] at *; omega) | (have := wrong_len ‹¬ ¬ shipWrong d0 d1 = 0›; omega) | (have h_ := follows_room (wrong_follow ‹¬ ¬ shipWrong d0 d1 = 0›) _ (List.mem_of_getElem? ‹d1[a.toNat]? = some _›); omega), by first | omega | (simp only [List.length_append, List.length_nil, List.length_cons, List.length_take, List.length_drop] at *; omega) | (have := wrong_len ‹¬ ¬ shipWrong d0 d1 = 0›; omega) | (have h_ := follows_room (wrong_follow ‹¬ ¬ shipWrong d0 d1 = 0›) _ (List.mem_of_getElem? ‹d1[a.toNat]? = some _›); omega)⟩) ?_
          refine VO.y rfl (.bst (cs := [Value.int .i64 (2), Value.int .i64 (d0), Value.int .u8 (0), Value.int .i64 (0), Value.slice none (0) (0), Value.int .i64 (d2 + 1), Value.int .i64 (0), Value.slice none (0) (0)]) rfl tst72 tz72 rfl) ?_
          refine VO.alloc 110 rfl tz72 (fun g9 => ?_)
          refine VO.store (k := 8) (c' := [Value.int .i64 (2), Value.int .i64 (d0), Value.int .u8 (0), Value.int .i64 (0), Value.slice none (0) (0), Value.int .i64 (d2 + 1), Value.int .i64 (0), Value.slice none (0) (0)]) 110 rfl rfl (.inl tk72) rfl rfl rfl rfl rfl ?_
          refine VO.k9 0 1 2 6 7 8 9 15 29 ?_
          refine VC.seq ?_
          refine VC.rs ?_
          refine VO.mv ?_
          refine VO.y rfl (.gtr rfl rfl) ?_
          refine VO.keep [110, 102, 0] [(110, mone g9 (.cells [Value.int .i64 (2), Value.int .i64 (d0), Value.int .u8 (0), Value.int .i64 (0), Value.slice none (0) (0), Value.int .i64 (d2 + 1), Value.int .i64 (0), Value.slice none (0) (0)].toArray 72 (0, 0))), (102, mone g1 (.cells [Value.int .i64 (0), Value.int .i64 (0), Value.int .u8 (0), Value.int .i64 (0), Value.slice none (0) (0), Value.int .i64 (0), Value.int .i64 (0), Value.slice none (0) (0)].toArray 72 (0, 0))), (0, wm W)] (by kernel_rfl) ?_
          refine VO.k10 0 1 2 6 7 8 9 15 29 36 ?_
          refine VC.cond rfl (fun hc11 => ?_) (fun hc11 => ?_)
          · -- FFFFT
            refine VC.reg ?_
            refine VO.mv ?_
            refine VO.mv ?_
            refine VO.y rfl (.sub rfl rfl rfl ⟨by first | omega | (simp only [List.length_append, List.length_nil, List.length_cons, List.length_take, List.length_drop] at *; omega) | (have := wrong_len ‹¬ ¬ shipWrong d0 d1 = 0›; omega) | (have h_ := follows_room (wrong_follow ‹¬ ¬ shipWrong d0 d1 = 0›) _ (List.mem_of_getElem? ‹d1[a.toNat]? = some _›); omega), by first | omega | (simp only [List.length_append, List.length_nil, List.length_cons, List.length_take, List.length_drop] at *; omega) | (have := wrong_len ‹¬ ¬ shipWrong d0 d1 = 0›; omega) | (have h_ := follows_room (wrong_follow ‹¬ ¬ shipWrong d0 d1 = 0›) _ (List.mem_of_getElem? ‹d1[a.toNat]? = some _›); omega)⟩) ?_
            obtain ⟨x12, hx12⟩ : ∃ z_, (d1)[(d2 - 1).toNat]? = some z_ := ⟨_, List.getElem?_eq_getElem (by first | omega | (simp only [List.length_append, List.length_nil, List.length_cons, List.length_take, List.length_drop] at *; omega) | (have := wrong_len ‹¬ ¬ shipWrong d0 d1 = 0›; omega) | (have h_ := follows_room (wrong_follow ‹¬ ¬ shipWrong d0 d1 = 0›) _ (List.mem_of_getElem? ‹d1[a.toNat]? = some _›); omega))⟩
            obtain ⟨gg12, oo12, ec12, ea12, hce12, hre12⟩ := h1.elem hx12
            cases ea12
            obtain ⟨q12_A2, q12_c2, rfl, q12_0, q12_1, q12_2⟩ := open_Commit (x0 := x12.1) (x1 := x12.2.1) (x2 := x12.2.2) hre12
            simp only [inK] at q12_0
            simp only [inK] at q12_1
            have q12_r2 := Rd.room q12_2
            refine VO.y rfl (.ixI ((d2 - 1).toNat) rfl rfl tsl61 (by first | omega | (simp only [List.length_append, List.length_nil, List.length_cons, List.length_take, List.length_drop] at *; omega) | (have := wrong_len ‹¬ ¬ shipWrong d0 d1 = 0›; omega) | (have h_ := follows_room (wrong_follow ‹¬ ¬ shipWrong d0 d1 = 0›) _ (List.mem_of_getElem? ‹d1[a.toNat]? = some _›); omega)) (by first | omega | (simp only [List.length_append, List.length_nil, List.length_cons, List.length_take, List.length_drop] at *; omega) | (have := wrong_len ‹¬ ¬ shipWrong d0 d1 = 0›; omega) | (have h_ := follows_room (wrong_follow ‹¬ ¬ shipWrong d0 d1 = 0›) _ (List.mem_of_getElem? ‹d1[a.toNat]? = some _›); omega))) ?_
            refine VO.y rfl (.fa rfl tst52 rfl) ?_
            refine VO.y rfl (.ld1 0 rfl tk3 rfl (hce12.at1 (j := 0) rfl)) ?_
            refine VO.y rfl (.fa rfl tst72 rfl) ?_
            refine VO.store (k := 1) (c' := [Value.int .i64 (2), Value.int .i64 (d0), Value.int .u8 (0), Value.int .i64 (0), Value.slice none (0) (0), Value.int .i64 (d2 + 1), Value.int .i64 (x12.1), Value.slice none (0) (0)]) 110 rfl rfl (.inr ⟨tk3, rfl⟩) rfl rfl rfl rfl rfl ?_
            refine VO.k10 0 1 2 6 7 8 9 15 29 36 ?_
            refine outN ?_
            refine VC.seq ?_
            refine VC.rs ?_
            refine VO.mv ?_
            refine VO.as ?_
            refine VO.k11 0 1 2 6 7 8 9 10 15 29 36 ?_
            refine VC.block ?_
            refine VC.inv ((113, mnil) :: _) (fun _ h => h.nilc 113) ?_
            refine VC.loop (G := Int × (List DCommit) × (Option Addr) × Nat × Mem) (fun g => [(10, Value.int .i64 ((g.1))), (0, Value.int .i64 (d0)), (1, Value.slice (some ⟨gg12, oo12, none⟩) (d1.length) (c1)), (2, Value.int .i64 (d2)), (6, Value.pointer (some ⟨g1, 0, none⟩)), (7, Value.int .i64 (0)), (8, Value.int .i64 (shipWrong d0 d1)), (9, Value.pointer (some ⟨g9, 0, none⟩)), (15, Value.bool (decide (¬ (shipWrong d0 d1) = 0))), (29, Value.bool (decide (d2 = 1048576))), (36, Value.bool (decide (0 < d2)))]) (fun g => [(113, (g.2.2.2.2)), (110, mone g9 (.cells [Value.int .i64 (2), Value.int .i64 (d0), Value.int .u8 (0), Value.int .i64 (0), Value.slice none (0) (0), Value.int .i64 (d2 + 1), Value.int .i64 (x12.1), Value.slice (g.2.2.1) ((g.2.1).length) ((g.2.2.2.1))].toArray 72 (0, 0))), (102, mone g1 (.cells [Value.int .i64 (0), Value.int .i64 (0), Value.int .u8 (0), Value.int .i64 (0), Value.slice none (0) (0), Value.int .i64 (0), Value.int .i64 (0), Value.slice none (0) (0)].toArray 72 (0, 0))), (0, wm W)]) (fun g => (d2 ≤ (g.1)) ∧ ((g.1) ≤ d1.length) ∧ ((g.2.1) = (d1.drop d2.toNat).take ((g.1) - d2).toNat) ∧ ((g.2.1).length ≤ 4) ∧ (Ow (.sl TCommit) (g.2.2.2.2) [.slice (g.2.2.1) (g.2.1).length (g.2.2.2.1)] (g.2.1))) (fun g => (d1.length - (g.1)).toNat) (d2, [], none, 0, mnil) (⟨by omega, by omega, by simp, by simp, (Ow.nil TCommit mnil)⟩) ⟨⟨rfl, rfl, rfl, rfl, rfl, rfl, rfl, rfl, rfl, rfl, rfl, trivial⟩, fun _ h => h.sub [113, 110, 102, 0]⟩ ?_
            rintro ⟨a, cs, cs_A, cs_c, cs_m⟩ ⟨ia, ib, hcs, h4, h_cs⟩
            replace ia : d2 ≤ a := ia
            replace ib : a ≤ d1.length := ib
            replace hcs : cs = (d1.drop d2.toNat).take (a - d2).toNat := hcs
            replace h4 : cs.length ≤ 4 := h4
            replace h_cs : Ow (.sl TCommit) cs_m [.slice cs_A cs.length cs_c] cs := h_cs
            show VC _ _ _ _ _ [(10, Value.int .i64 (a)), (0, Value.int .i64 (d0)), (1, Value.slice (some ⟨gg12, oo12, none⟩) (d1.length) (c1)), (2, Value.int .i64 (d2)), (6, Value.pointer (some ⟨g1, 0, none⟩)), (7, Value.int .i64 (0)), (8, Value.int .i64 (shipWrong d0 d1)), (9, Value.pointer (some ⟨g9, 0, none⟩)), (15, Value.bool (decide (¬ (shipWrong d0 d1) = 0))), (29, Value.bool (decide (d2 = 1048576))), (36, Value.bool (decide (0 < d2)))] [(113, cs_m), (110, mone g9 (.cells [Value.int .i64 (2), Value.int .i64 (d0), Value.int .u8 (0), Value.int .i64 (0), Value.slice none (0) (0), Value.int .i64 (d2 + 1), Value.int .i64 (x12.1), Value.slice cs_A (cs.length) (cs_c)].toArray 72 (0, 0))), (102, mone g1 (.cells [Value.int .i64 (0), Value.int .i64 (0), Value.int .u8 (0), Value.int .i64 (0), Value.slice none (0) (0), Value.int .i64 (0), Value.int .i64 (0), Value.slice none (0) (0)].toArray 72 (0, 0))), (0, wm W)]
            have l_cs : cs.length ≤ cs_c := by obtain ⟨_, _, he, hl, _⟩ := h_cs.slice; simp only [Value.slice.injEq] at he; omega
            have k_cs : cs_c ≤ 9223372036854775807 := by obtain ⟨_, _, he, _, hl⟩ := h_cs.slice; simp only [Value.slice.injEq, maxLen] at he hl; omega
            refine VC.seq ?_
            refine VC.rs ?_
            refine VO.mv ?_
            refine VO.mv ?_
            refine VO.y rfl (.lenS rfl tsl61) ?_
            refine VO.y rfl (.lss rfl rfl) ?_
            refine VO.mv ?_
            refine VO.dec (t := 49) rfl (fun hc14 => ?_) (fun hc14 => ?_)
            · -- FFFFTT
              refine VO.gy rfl ⟨_, rfl, rfl⟩ (.fa rfl tst72 rfl) ?_
              refine VO.gy rfl ⟨_, rfl, rfl⟩ (.ld1 110 rfl tk61 rfl (cellsAt_one rfl rfl)) ?_
              refine VO.gy rfl ⟨_, rfl, rfl⟩ (.lenS rfl tsl61) ?_
              refine VO.gy rfl ⟨_, rfl, rfl⟩ (.lss rfl rfl) ?_
              refine VO.y rfl (.pT rfl rfl) ?_
              refine VO.keep [113, 110, 102, 0] [(113, cs_m), (110, mone g9 (.cells [Value.int .i64 (2), Value.int .i64 (d0), Value.int .u8 (0), Value.int .i64 (0), Value.slice none (0) (0), Value.int .i64 (d2 + 1), Value.int .i64 (x12.1), Value.slice cs_A (cs.length) (cs_c)].toArray 72 (0, 0))), (102, mone g1 (.cells [Value.int .i64 (0), Value.int .i64 (0), Value.int .u8 (0), Value.int .i64 (0), Value.slice none (0) (0), Value.int .i64 (0), Value.int .i64 (0), Value.slice none (0) (0)].toArray 72 (0, 0))), (0, wm W)] (by kernel_rfl) ?_
              refine VO.k12 0 1 2 6 7 8 9 10 15 29 36 54 ?_
              refine VC.cond rfl (fun hc15 => ?_) (fun hc15 => ?_)
              · -- FFFFTTT
                refine VC.skip ?_
                refine outN ?_
                refine VC.seq ?_
                refine VC.block ?_
                refine VC.regD _ 8 [(0, true), (1, true), (2, true), (3, true), (4, true), (5, true), (6, false), (7, false)] follows (by kernel_rfl) (fun _ h => h.sub [113, 110, 102, 0]) ?_
                refine VD.y rfl rfl (.inl rfl) (.fa rfl tst72 rfl) ?_
                refine VD.y rfl rfl (.inl rfl) (.ld1 110 rfl tk61 rfl (cellsAt_one rfl rfl)) ?_
                refine VD.y rfl rfl (.inl rfl) (.mv rfl) ?_
                refine VD.y rfl rfl (.inl rfl) (.mv rfl) ?_
                obtain ⟨x16, hx16⟩ : ∃ z_, (d1)[(a).toNat]? = some z_ := ⟨_, List.getElem?_eq_getElem (by first | omega | (simp only [List.length_append, List.length_nil, List.length_cons, List.length_take, List.length_drop] at *; omega) | (have := wrong_len ‹¬ ¬ shipWrong d0 d1 = 0›; omega) | (have h_ := follows_room (wrong_follow ‹¬ ¬ shipWrong d0 d1 = 0›) _ (List.mem_of_getElem? ‹d1[a.toNat]? = some _›); omega))⟩
                obtain ⟨gg16, oo16, ec16, ea16, hce16, hre16⟩ := h1.elem hx16
                cases ea16
                obtain ⟨q16_A2, q16_c2, rfl, q16_0, q16_1, q16_2⟩ := open_Commit (x0 := x16.1) (x1 := x16.2.1) (x2 := x16.2.2) hre16
                simp only [inK] at q16_0
                simp only [inK] at q16_1
                have q16_r2 := Rd.room q16_2
                refine VD.y rfl rfl (.inl rfl) (.ixI ((a).toNat) rfl rfl tsl61 (by first | omega | (simp only [List.length_append, List.length_nil, List.length_cons, List.length_take, List.length_drop] at *; omega) | (have := wrong_len ‹¬ ¬ shipWrong d0 d1 = 0›; omega) | (have h_ := follows_room (wrong_follow ‹¬ ¬ shipWrong d0 d1 = 0›) _ (List.mem_of_getElem? ‹d1[a.toNat]? = some _›); omega)) (by first | omega | (simp only [List.length_append, List.length_nil, List.length_cons, List.length_take, List.length_drop] at *; omega) | (have := wrong_len ‹¬ ¬ shipWrong d0 d1 = 0›; omega) | (have h_ := follows_room (wrong_follow ‹¬ ¬ shipWrong d0 d1 = 0›) _ (List.mem_of_getElem? ‹d1[a.toNat]? = some _›); omega))) ?_
                refine VD.y rfl rfl (.inl rfl) (.ldA 0 rfl tk52 rfl hce16) ?_
                refine VD.callN 117 rfl rfl (.inl rfl) fnOk116 rfl (fun _ h => h.sub [113, 110, 102, 0]) (fun W hW => c4Copy_ok W (Rd.mono hre16 (hW.at (i := 0) rfl)) (by first | omega | (simp only [List.length_append, List.length_nil, List.length_cons, List.length_take, List.length_drop] at *; omega) | (have := wrong_len ‹¬ ¬ shipWrong d0 d1 = 0›; omega) | (have h_ := follows_room (wrong_follow ‹¬ ¬ shipWrong d0 d1 = 0›) _ (List.mem_of_getElem? ‹d1[a.toNat]? = some _›); omega))) (fun v17 m17 hv17 => ?_)
                obtain ⟨s17_0, rfl, f17_0⟩ := hv17
                obtain ⟨q17_0_A2, q17_0_c2, q17_0_n2, rfl, q17_0_S, q17_0_0, q17_0_1, q17_0_2⟩ := openO_Commit (x0 := x16.1) (x1 := x16.2.1) (x2 := x16.2.2) f17_0
                simp only [inK] at q17_0_0
                simp only [inK] at q17_0_1
                have q17_0_r2 := Rd.room (q17_0_2.rd (mle_refl _))
                refine VD.inv _ (fun _ h => h.parts (i := 117) rfl q17_0_S [118]) ?_
                refine VD.bsl (cs := [Value.int .i64 (x16.1), Value.int .i64 (x16.2.1), Value.slice q17_0_A2 (x16.2.2.length) (q17_0_c2)]) 120 rfl rfl rfl tsl61 tz52 rfl rfl (fun _ h => h.sub [113, 110, 102, 0]) (fun g19 => ?_)
                refine VD.nil rfl ?_ rfl
                refine VO.appO (e := TCommit) 113 118 120 rfl rfl rfl tsl61 tz52 rfl rfl rfl rfl h_cs (show Ow TCommit _ _ x16 from (mkO_Commit x16.1 x16.2.1 x16.2.2 (Seps.one (mle_refl _)) (by simp only [inK]; (first | omega | (simp only [List.length_append, List.length_nil, List.length_cons, List.length_take, List.length_drop] at *; omega) | (have := wrong_len ‹¬ ¬ shipWrong d0 d1 = 0›; omega) | (have h_ := follows_room (wrong_follow ‹¬ ¬ shipWrong d0 d1 = 0›) _ (List.mem_of_getElem? ‹d1[a.toNat]? = some _›); omega))) (by simp only [inK]; (first | omega | (simp only [List.length_append, List.length_nil, List.length_cons, List.length_take, List.length_drop] at *; omega) | (have := wrong_len ‹¬ ¬ shipWrong d0 d1 = 0›; omega) | (have h_ := follows_room (wrong_follow ‹¬ ¬ shipWrong d0 d1 = 0›) _ (List.mem_of_getElem? ‹d1[a.toNat]? = some _›); omega))) (OwnL.ow (Ow.ownl q17_0_2 rfl mnil) rfl))) Try.underlying61 (cellsAt_one rfl rfl) (by simp only [maxLen]; (first | omega | (simp only [List.length_append, List.length_nil, List.length_cons, List.length_take, List.length_drop] at *; omega) | (have := wrong_len ‹¬ ¬ shipWrong d0 d1 = 0›; omega) | (have h_ := follows_room (wrong_follow ‹¬ ¬ shipWrong d0 d1 = 0›) _ (List.mem_of_getElem? ‹d1[a.toNat]? = some _›); omega))) (by first | omega | (simp only [List.length_append, List.length_nil, List.length_cons, List.length_take, List.length_drop] at *; omega) | (have := wrong_len ‹¬ ¬ shipWrong d0 d1 = 0›; omega) | (have h_ := follows_room (wrong_follow ‹¬ ¬ shipWrong d0 d1 = 0›) _ (List.mem_of_getElem? ‹d1[a.toNat]? = some _›); omega)) (by decide) (fun v21 m21 ho21 => ?_)
                obtain ⟨A21, c21, rfl, l21, k21⟩ := ho21.slice
                simp only [maxLen] at k21
                refine VO.y rfl (.fa rfl tst72 rfl) ?_
                refine VO.store (k := 1) (c' := [Value.int .i64 (2), Value.int .i64 (d0), Value.int .u8 (0), Value.int .i64 (0), Value.slice none (0) (0), Value.int .i64 (d2 + 1), Value.int .i64 (x12.1), Value.slice A21 ((cs ++ [x16]).length) (c21)]) 110 rfl rfl (.inr ⟨tk61, rfl⟩) rfl rfl rfl rfl rfl ?_
                refine VO.k12 0 1 2 6 7 8 9 10 15 29 36 54 ?_
                refine outBN ?_
                refine outN ?_
                refine VC.reg ?_
                refine VO.mv ?_
                refine VO.y rfl (.add rfl rfl rfl ⟨by first | omega | (simp only [List.length_append, List.length_nil, List.length_cons, List.length_take, List.length_drop] at *; omega) | (have := wrong_len ‹¬ ¬ shipWrong d0 d1 = 0›; omega) | (have h_ := follows_room (wrong_follow ‹¬ ¬ shipWrong d0 d1 = 0›) _ (List.mem_of_getElem? ‹d1[a.toNat]? = some _›); omega), by first | omega | (simp only [List.length_append, List.length_nil, List.length_cons, List.length_take, List.length_drop] at *; omega) | (have := wrong_len ‹¬ ¬ shipWrong d0 d1 = 0›; omega) | (have h_ := follows_room (wrong_follow ‹¬ ¬ shipWrong d0 d1 = 0›) _ (List.mem_of_getElem? ‹d1[a.toNat]? = some _›); omega)⟩) ?_
                refine VO.as ?_
                refine VO.k12 0 1 2 6 7 8 9 10 15 29 36 54 ?_
                exact outN ⟨⟨a + 1, cs ++ [x16], A21, c21, m21⟩, ⟨by omega, by omega, by exact next_one hcs (by omega) ia ‹d1[a.toNat]? = some _›, by (simp only [List.length_append, List.length_cons, List.length_nil]; omega), ho21⟩, by first | omega | (simp only [List.length_append, List.length_nil, List.length_cons, List.length_take, List.length_drop] at *; omega) | (have := wrong_len ‹¬ ¬ shipWrong d0 d1 = 0›; omega) | (have h_ := follows_room (wrong_follow ‹¬ ¬ shipWrong d0 d1 = 0›) _ (List.mem_of_getElem? ‹d1[a.toNat]? = some _›); omega), ⟨⟨rfl, rfl, rfl, rfl, rfl, rfl, rfl, rfl, rfl, rfl, rfl, trivial⟩, fun _ h => Inv.sub h [113, 110, 102, 0]⟩⟩
              · -- FFFFTTF
                refine VC.exit ?_
                refine outE ?_
                refine outE ?_
                refine outBB ?_
                refine outN ?_
                refine VC.rs ?_
                refine VO.y rfl (.ldA 110 rfl tk72 rfl (cellsAt_one rfl rfl)) ?_
                refine VO.store (k := 8) (c' := [Value.int .i64 (2), Value.int .i64 (d0), Value.int .u8 (0), Value.int .i64 (0), Value.slice none (0) (0), Value.int .i64 (d2 + 1), Value.int .i64 (x12.1), Value.slice cs_A (cs.length) (cs_c)]) 102 rfl rfl (.inl tk72) rfl rfl rfl rfl rfl ?_
                refine VO.as ?_
                refine VO.k12 0 1 2 6 7 8 9 10 15 29 36 54 ?_
                refine VC.ret ?_
                refine ⟨_, _, res_run (rs := [.cell 6 72, .tmp 7]) rfl (.agg 102 rfl tk72 rfl ⟨_, _, _, mone_self _ _, Nat.le_of_ble_eq_true rfl, rfl⟩ (.tmp rfl .nil)), fun W_ hI => out_of (l := [cs_m]) hI [113] rfl rfl (mle_refl _) (fun hS_ => ?_)⟩
                dsimp only [packV]
                have he0 : ((shipNext d0 d1 d2).1 : Ty.Den TMessage) = (2, d0, 0, 0, [], d2 + 1, x12.1, cs) := by first | rfl | (first | (rw [next_wrong (by assumption)]; rfl) | (rw [next_arg (by assumption) (by omega)]; rfl) | (have hcs2 := next_end hcs (by omega) ia h4 (by omega); rw [next_good (by assumption) (by omega) (by omega) (by omega), ← hcs2]; first | rw [prevOf_pos (by assumption) (by assumption)] | rw [prevOf_zero (by assumption)]))
                refine ⟨[Value.int .i64 (2), Value.int .i64 (d0), Value.int .u8 (0), Value.int .i64 (0), Value.slice none (0) (0), Value.int .i64 (d2 + 1), Value.int .i64 (x12.1), Value.slice cs_A (cs.length) (cs_c)], ?_, ?_⟩
                rotate_left
                · rw [he0]; exact (mkO_Message 2 d0 0 0 [] (d2 + 1) x12.1 cs (Seps.nilAt 0 hS_) (by simp only [inK]; (first | omega | (simp only [List.length_append, List.length_nil, List.length_cons, List.length_take, List.length_drop] at *; omega) | (have := wrong_len ‹¬ ¬ shipWrong d0 d1 = 0›; omega) | (have h_ := follows_room (wrong_follow ‹¬ ¬ shipWrong d0 d1 = 0›) _ (List.mem_of_getElem? ‹d1[a.toNat]? = some _›); omega))) (by simp only [inK]; (first | omega | (simp only [List.length_append, List.length_nil, List.length_cons, List.length_take, List.length_drop] at *; omega) | (have := wrong_len ‹¬ ¬ shipWrong d0 d1 = 0›; omega) | (have h_ := follows_room (wrong_follow ‹¬ ¬ shipWrong d0 d1 = 0›) _ (List.mem_of_getElem? ‹d1[a.toNat]? = some _›); omega))) (by simp only [inK]; (first | omega | (simp only [List.length_append, List.length_nil, List.length_cons, List.length_take, List.length_drop] at *; omega) | (have := wrong_len ‹¬ ¬ shipWrong d0 d1 = 0›; omega) | (have h_ := follows_room (wrong_follow ‹¬ ¬ shipWrong d0 d1 = 0›) _ (List.mem_of_getElem? ‹d1[a.toNat]? = some _›); omega))) (by simp only [inK]; (first | omega | (simp only [List.length_append, List.length_nil, List.length_cons, List.length_take, List.length_drop] at *; omega) | (have := wrong_len ‹¬ ¬ shipWrong d0 d1 = 0›; omega) | (have h_ := follows_room (wrong_follow ‹¬ ¬ shipWrong d0 d1 = 0›) _ (List.mem_of_getElem? ‹d1[a.toNat]? = some _›); omega))) (Ow.nil _ _) (by simp only [inK]; (first | omega | (simp only [List.length_append, List.length_nil, List.length_cons, List.length_take, List.length_drop] at *; omega) | (have := wrong_len ‹¬ ¬ shipWrong d0 d1 = 0›; omega) | (have h_ := follows_room (wrong_follow ‹¬ ¬ shipWrong d0 d1 = 0›) _ (List.mem_of_getElem? ‹d1[a.toNat]? = some _›); omega))) (by simp only [inK]; (first | omega | (simp only [List.length_append, List.length_nil, List.length_cons, List.length_take, List.length_drop] at *; omega) | (have := wrong_len ‹¬ ¬ shipWrong d0 d1 = 0›; omega) | (have h_ := follows_room (wrong_follow ‹¬ ¬ shipWrong d0 d1 = 0›) _ (List.mem_of_getElem? ‹d1[a.toNat]? = some _›); omega))) h_cs)
                all_goals (first | rfl | (first | (rw [next_wrong (by assumption)]; rfl) | (rw [next_arg (by assumption) (by omega)]; rfl) | (rw [next_good (by assumption) (by omega) (by omega) (by omega)]; rfl)))
            · -- FFFFTF
              refine VO.gN ?_
              refine VO.gN ?_
              refine VO.gN ?_
              refine VO.gN ?_
              refine VO.y rfl (.pF rfl rfl) ?_
              refine VO.keep [113, 110, 102, 0] [(113, cs_m), (110, mone g9 (.cells [Value.int .i64 (2), Value.int .i64 (d0), Value.int .u8 (0), Value.int .i64 (0), Value.slice none (0) (0), Value.int .i64 (d2 + 1), Value.int .i64 (x12.1), Value.slice cs_A (cs.length) (cs_c)].toArray 72 (0, 0))), (102, mone g1 (.cells [Value.int .i64 (0), Value.int .i64 (0), Value.int .u8 (0), Value.int .i64 (0), Value.slice none (0) (0), Value.int .i64 (0), Value.int .i64 (0), Value.slice none (0) (0)].toArray 72 (0, 0))), (0, wm W)] (by kernel_rfl) ?_
              refine VO.k12 0 1 2 6 7 8 9 10 15 29 36 54 ?_
              refine VC.condF rfl ?_
              refine VC.exit ?_
              refine outE ?_
              refine outE ?_
              refine outBB ?_
              refine outN ?_
              refine VC.rs ?_
              refine VO.y rfl (.ldA 110 rfl tk72 rfl (cellsAt_one rfl rfl)) ?_
              refine VO.store (k := 8) (c' := [Value.int .i64 (2), Value.int .i64 (d0), Value.int .u8 (0), Value.int .i64 (0), Value.slice none (0) (0), Value.int .i64 (d2 + 1), Value.int .i64 (x12.1), Value.slice cs_A (cs.length) (cs_c)]) 102 rfl rfl (.inl tk72) rfl rfl rfl rfl rfl ?_
              refine VO.as ?_
              refine VO.k12 0 1 2 6 7 8 9 10 15 29 36 54 ?_
              refine VC.ret ?_
              refine ⟨_, _, res_run (rs := [.cell 6 72, .tmp 7]) rfl (.agg 102 rfl tk72 rfl ⟨_, _, _, mone_self _ _, Nat.le_of_ble_eq_true rfl, rfl⟩ (.tmp rfl .nil)), fun W_ hI => out_of (l := [cs_m]) hI [113] rfl rfl (mle_refl _) (fun hS_ => ?_)⟩
              dsimp only [packV]
              have he0 : ((shipNext d0 d1 d2).1 : Ty.Den TMessage) = (2, d0, 0, 0, [], d2 + 1, x12.1, cs) := by first | rfl | (first | (rw [next_wrong (by assumption)]; rfl) | (rw [next_arg (by assumption) (by omega)]; rfl) | (have hcs2 := next_end hcs (by omega) ia h4 (by omega); rw [next_good (by assumption) (by omega) (by omega) (by omega), ← hcs2]; first | rw [prevOf_pos (by assumption) (by assumption)] | rw [prevOf_zero (by assumption)]))
              refine ⟨[Value.int .i64 (2), Value.int .i64 (d0), Value.int .u8 (0), Value.int .i64 (0), Value.slice none (0) (0), Value.int .i64 (d2 + 1), Value.int .i64 (x12.1), Value.slice cs_A (cs.length) (cs_c)], ?_, ?_⟩
              rotate_left
              · rw [he0]; exact (mkO_Message 2 d0 0 0 [] (d2 + 1) x12.1 cs (Seps.nilAt 0 hS_) (by simp only [inK]; (first | omega | (simp only [List.length_append, List.length_nil, List.length_cons, List.length_take, List.length_drop] at *; omega) | (have := wrong_len ‹¬ ¬ shipWrong d0 d1 = 0›; omega) | (have h_ := follows_room (wrong_follow ‹¬ ¬ shipWrong d0 d1 = 0›) _ (List.mem_of_getElem? ‹d1[a.toNat]? = some _›); omega))) (by simp only [inK]; (first | omega | (simp only [List.length_append, List.length_nil, List.length_cons, List.length_take, List.length_drop] at *; omega) | (have := wrong_len ‹¬ ¬ shipWrong d0 d1 = 0›; omega) | (have h_ := follows_room (wrong_follow ‹¬ ¬ shipWrong d0 d1 = 0›) _ (List.mem_of_getElem? ‹d1[a.toNat]? = some _›); omega))) (by simp only [inK]; (first | omega | (simp only [List.length_append, List.length_nil, List.length_cons, List.length_take, List.length_drop] at *; omega) | (have := wrong_len ‹¬ ¬ shipWrong d0 d1 = 0›; omega) | (have h_ := follows_room (wrong_follow ‹¬ ¬ shipWrong d0 d1 = 0›) _ (List.mem_of_getElem? ‹d1[a.toNat]? = some _›); omega))) (by simp only [inK]; (first | omega | (simp only [List.length_append, List.length_nil, List.length_cons, List.length_take, List.length_drop] at *; omega) | (have := wrong_len ‹¬ ¬ shipWrong d0 d1 = 0›; omega) | (have h_ := follows_room (wrong_follow ‹¬ ¬ shipWrong d0 d1 = 0›) _ (List.mem_of_getElem? ‹d1[a.toNat]? = some _›); omega))) (Ow.nil _ _) (by simp only [inK]; (first | omega | (simp only [List.length_append, List.length_nil, List.length_cons, List.length_take, List.length_drop] at *; omega) | (have := wrong_len ‹¬ ¬ shipWrong d0 d1 = 0›; omega) | (have h_ := follows_room (wrong_follow ‹¬ ¬ shipWrong d0 d1 = 0›) _ (List.mem_of_getElem? ‹d1[a.toNat]? = some _›); omega))) (by simp only [inK]; (first | omega | (simp only [List.length_append, List.length_nil, List.length_cons, List.length_take, List.length_drop] at *; omega) | (have := wrong_len ‹¬ ¬ shipWrong d0 d1 = 0›; omega) | (have h_ := follows_room (wrong_follow ‹¬ ¬ shipWrong d0 d1 = 0›) _ (List.mem_of_getElem? ‹d1[a.toNat]? = some _›); omega))) h_cs)
              all_goals (first | rfl | (first | (rw [next_wrong (by assumption)]; rfl) | (rw [next_arg (by assumption) (by omega)]; rfl) | (rw [next_good (by assumption) (by omega) (by omega) (by omega)]; rfl)))
          · -- FFFFF
            refine VC.skip ?_
            refine outN ?_
            refine VC.seq ?_
            refine VC.rs ?_
            refine VO.mv ?_
            refine VO.as ?_
            refine VO.k11 0 1 2 6 7 8 9 10 15 29 36 ?_
            refine VC.block ?_
            refine VC.inv ((122, mnil) :: _) (fun _ h => h.nilc 122) ?_
            refine VC.loop (G := Int × (List DCommit) × (Option Addr) × Nat × Mem) (fun g => [(10, Value.int .i64 ((g.1))), (0, Value.int .i64 (d0)), (1, Value.slice A1 (d1.length) (c1)), (2, Value.int .i64 (d2)), (6, Value.pointer (some ⟨g1, 0, none⟩)), (7, Value.int .i64 (0)), (8, Value.int .i64 (shipWrong d0 d1)), (9, Value.pointer (some ⟨g9, 0, none⟩)), (15, Value.bool (decide (¬ (shipWrong d0 d1) = 0))), (29, Value.bool (decide (d2 = 1048576))), (36, Value.bool (decide (0 < d2)))]) (fun g => [(122, (g.2.2.2.2)), (110, mone g9 (.cells [Value.int .i64 (2), Value.int .i64 (d0), Value.int .u8 (0), Value.int .i64 (0), Value.slice none (0) (0), Value.int .i64 (d2 + 1), Value.int .i64 (0), Value.slice (g.2.2.1) ((g.2.1).length) ((g.2.2.2.1))].toArray 72 (0, 0))), (102, mone g1 (.cells [Value.int .i64 (0), Value.int .i64 (0), Value.int .u8 (0), Value.int .i64 (0), Value.slice none (0) (0), Value.int .i64 (0), Value.int .i64 (0), Value.slice none (0) (0)].toArray 72 (0, 0))), (0, wm W)]) (fun g => (d2 ≤ (g.1)) ∧ ((g.1) ≤ d1.length) ∧ ((g.2.1) = (d1.drop d2.toNat).take ((g.1) - d2).toNat) ∧ ((g.2.1).length ≤ 4) ∧ (Ow (.sl TCommit) (g.2.2.2.2) [.slice (g.2.2.1) (g.2.1).length (g.2.2.2.1)] (g.2.1))) (fun g => (d1.length - (g.1)).toNat) (d2, [], none, 0, mnil) (⟨by omega, by omega, by simp, by simp, (Ow.nil TCommit mnil)⟩) ⟨⟨rfl, rfl, rfl, rfl, rfl, rfl, rfl, rfl, rfl, rfl, rfl, trivial⟩, fun _ h => h.sub [122, 110, 102, 0]⟩ ?_
            rintro ⟨a, cs, cs_A, cs_c, cs_m⟩ ⟨ia, ib, hcs, h4, h_cs⟩
            replace ia : d2 ≤ a := ia
            replace ib : a ≤ d1.length := ib
            replace hcs : cs = (d1.drop d2.toNat).take (a - d2).toNat := hcs
            replace h4 : cs.length ≤ 4 := h4
            replace h_cs : Ow (.sl TCommit) cs_m [.slice cs_A cs.length cs_c] cs := h_cs
            show VC _ _ _ _ _ [(10, Value.int .i64 (a)), (0, Value.int .i64 (d0)), (1, Value.slice A1 (d1.length) (c1)), (2, Value.int .i64 (d2)), (6, Value.pointer (some ⟨g1, 0, none⟩)), (7, Value.int .i64 (0)), (8, Value.int .i64 (shipWrong d0 d1)), (9, Value.pointer (some ⟨g9, 0, none⟩)), (15, Value.bool (decide (¬ (shipWrong d0 d1) = 0))), (29, Value.bool (decide (d2 = 1048576))), (36, Value.bool (decide (0 < d2)))] [(122, cs_m), (110, mone g9 (.cells [Value.int .i64 (2), Value.int .i64 (d0), Value.int .u8 (0), Value.int .i64 (0), Value.slice none (0) (0), Value.int .i64 (d2 + 1), Value.int .i64 (0), Value.slice cs_A (cs.length) (cs_c)].toArray 72 (0, 0))), (102, mone g1 (.cells [Value.int .i64 (0), Value.int .i64 (0), Value.int .u8 (0), Value.int .i64 (0), Value.slice none (0) (0), Value.int .i64 (0), Value.int .i64 (0), Value.slice none (0) (0)].toArray 72 (0, 0))), (0, wm W)]
            have l_cs : cs.length ≤ cs_c := by obtain ⟨_, _, he, hl, _⟩ := h_cs.slice; simp only [Value.slice.injEq] at he; omega
            have k_cs : cs_c ≤ 9223372036854775807 := by obtain ⟨_, _, he, _, hl⟩ := h_cs.slice; simp only [Value.slice.injEq, maxLen] at he hl; omega
            refine VC.seq ?_
            refine VC.rs ?_
            refine VO.mv ?_
            refine VO.mv ?_
            refine VO.y rfl (.lenS rfl tsl61) ?_
            refine VO.y rfl (.lss rfl rfl) ?_
            refine VO.mv ?_
            refine VO.dec (t := 49) rfl (fun hc23 => ?_) (fun hc23 => ?_)
            · -- FFFFFT
              refine VO.gy rfl ⟨_, rfl, rfl⟩ (.fa rfl tst72 rfl) ?_
              refine VO.gy rfl ⟨_, rfl, rfl⟩ (.ld1 110 rfl tk61 rfl (cellsAt_one rfl rfl)) ?_
              refine VO.gy rfl ⟨_, rfl, rfl⟩ (.lenS rfl tsl61) ?_
              refine VO.gy rfl ⟨_, rfl, rfl⟩ (.lss rfl rfl) ?_
              refine VO.y rfl (.pT rfl rfl) ?_
              refine VO.k12 0 1 2 6 7 8 9 10 15 29 36 54 ?_
              refine VC.cond rfl (fun hc24 => ?_) (fun hc24 => ?_)
              · -- FFFFFTT
                refine VC.skip ?_
                refine outN ?_
                refine VC.seq ?_
                refine VC.block ?_
                refine VC.regD _ 8 [(0, true), (1, true), (2, true), (3, true), (4, true), (5, true), (6, false), (7, false)] follows (by kernel_rfl) (fun _ h => h.sub [122, 110, 102, 0]) ?_
                refine VD.y rfl rfl (.inl rfl) (.fa rfl tst72 rfl) ?_
                refine VD.y rfl rfl (.inl rfl) (.ld1 110 rfl tk61 rfl (cellsAt_one rfl rfl)) ?_
                refine VD.y rfl rfl (.inl rfl) (.mv rfl) ?_
                refine VD.y rfl rfl (.inl rfl) (.mv rfl) ?_
                obtain ⟨x25, hx25⟩ : ∃ z_, (d1)[(a).toNat]? = some z_ := ⟨_, List.getElem?_eq_getElem (by first | omega | (simp only [List.length_append, List.length_nil, List.length_cons, List.length_take, List.length_drop] at *; omega) | (have := wrong_len ‹¬ ¬ shipWrong d0 d1 = 0›; omega) | (have h_ := follows_room (wrong_follow ‹¬ ¬ shipWrong d0 d1 = 0›) _ (List.mem_of_getElem? ‹d1[a.toNat]? = some _›); omega))⟩
                obtain ⟨gg25, oo25, ec25, ea25, hce25, hre25⟩ := h1.elem hx25
                cases ea25
                obtain ⟨q25_A2, q25_c2, rfl, q25_0, q25_1, q25_2⟩ := open_Commit (x0 := x25.1) (x1 := x25.2.1) (x2 := x25.2.2) hre25
                simp only [inK] at q25_0
                simp only [inK] at q25_1
                have q25_r2 := Rd.room q25_2
                refine VD.y rfl rfl (.inl rfl) (.ixI ((a).toNat) rfl rfl tsl61 (by first | omega | (simp only [List.length_append, List.length_nil, List.length_cons, List.length_take, List.length_drop] at *; omega) | (have := wrong_len ‹¬ ¬ shipWrong d0 d1 = 0›; omega) | (have h_ := follows_room (wrong_follow ‹¬ ¬ shipWrong d0 d1 = 0›) _ (List.mem_of_getElem? ‹d1[a.toNat]? = some _›); omega)) (by first | omega | (simp only [List.length_append, List.length_nil, List.length_cons, List.length_take, List.length_drop] at *; omega) | (have := wrong_len ‹¬ ¬ shipWrong d0 d1 = 0›; omega) | (have h_ := follows_room (wrong_follow ‹¬ ¬ shipWrong d0 d1 = 0›) _ (List.mem_of_getElem? ‹d1[a.toNat]? = some _›); omega))) ?_
                refine VD.y rfl rfl (.inl rfl) (.ldA 0 rfl tk52 rfl hce25) ?_
                refine VD.callN 126 rfl rfl (.inl rfl) fnOk116 rfl (fun _ h => h.sub [122, 110, 102, 0]) (fun W hW => c4Copy_ok W (Rd.mono hre25 (hW.at (i := 0) rfl)) (by first | omega | (simp only [List.length_append, List.length_nil, List.length_cons, List.length_take, List.length_drop] at *; omega) | (have := wrong_len ‹¬ ¬ shipWrong d0 d1 = 0›; omega) | (have h_ := follows_room (wrong_follow ‹¬ ¬ shipWrong d0 d1 = 0›) _ (List.mem_of_getElem? ‹d1[a.toNat]? = some _›); omega))) (fun v26 m26 hv26 => ?_)
                obtain ⟨s26_0, rfl, f26_0⟩ := hv26
                obtain ⟨q26_0_A2, q26_0_c2, q26_0_n2, rfl, q26_0_S, q26_0_0, q26_0_1, q26_0_2⟩ := openO_Commit (x0 := x25.1) (x1 := x25.2.1) (x2 := x25.2.2) f26_0
                simp only [inK] at q26_0_0
                simp only [inK] at q26_0_1
                have q26_0_r2 := Rd.room (q26_0_2.rd (mle_refl _))
                refine VD.inv _ (fun _ h => h.parts (i := 126) rfl q26_0_S [127]) ?_
                refine VD.bsl (cs := [Value.int .i64 (x25.1), Value.int .i64 (x25.2.1), Value.slice q26_0_A2 (x25.2.2.length) (q26_0_c2)]) 129 rfl rfl rfl tsl61 tz52 rfl rfl (fun _ h => h.sub [122, 110, 102, 0]) (fun g28 => ?_)
                refine VD.nil rfl ?_ rfl
                refine VO.appO (e := TCommit) 122 127 129 rfl rfl rfl tsl61 tz52 rfl rfl rfl rfl h_cs (show Ow TCommit _ _ x25 from (mkO_Commit x25.1 x25.2.1 x25.2.2 (Seps.one (mle_refl _)) (by simp only [inK]; (first | omega | (simp only [List.length_append, List.length_nil, List.length_cons, List.length_take, List.length_drop] at *; omega) | (have := wrong_len ‹¬ ¬ shipWrong d0 d1 = 0›; omega) | (have h_ := follows_room (wrong_follow ‹¬ ¬ shipWrong d0 d1 = 0›) _ (List.mem_of_getElem? ‹d1[a.toNat]? = some _›); omega))) (by simp only [inK]; (first | omega | (simp only [List.length_append, List.length_nil, List.length_cons, List.length_take, List.length_drop] at *; omega) | (have := wrong_len ‹¬ ¬ shipWrong d0 d1 = 0›; omega) | (have h_ := follows_room (wrong_follow ‹¬ ¬ shipWrong d0 d1 = 0›) _ (List.mem_of_getElem? ‹d1[a.toNat]? = some _›); omega))) (OwnL.ow (Ow.ownl q26_0_2 rfl mnil) rfl))) Try.underlying61 (cellsAt_one rfl rfl) (by simp only [maxLen]; (first | omega | (simp only [List.length_append, List.length_nil, List.length_cons, List.length_take, List.length_drop] at *; omega) | (have := wrong_len ‹¬ ¬ shipWrong d0 d1 = 0›; omega) | (have h_ := follows_room (wrong_follow ‹¬ ¬ shipWrong d0 d1 = 0›) _ (List.mem_of_getElem? ‹d1[a.toNat]? = some _›); omega))) (by first | omega | (simp only [List.length_append, List.length_nil, List.length_cons, List.length_take, List.length_drop] at *; omega) | (have := wrong_len ‹¬ ¬ shipWrong d0 d1 = 0›; omega) | (have h_ := follows_room (wrong_follow ‹¬ ¬ shipWrong d0 d1 = 0›) _ (List.mem_of_getElem? ‹d1[a.toNat]? = some _›); omega)) (by decide) (fun v30 m30 ho30 => ?_)
                obtain ⟨A30, c30, rfl, l30, k30⟩ := ho30.slice
                simp only [maxLen] at k30
                refine VO.y rfl (.fa rfl tst72 rfl) ?_
                refine VO.store (k := 1) (c' := [Value.int .i64 (2), Value.int .i64 (d0), Value.int .u8 (0), Value.int .i64 (0), Value.slice none (0) (0), Value.int .i64 (d2 + 1), Value.int .i64 (0), Value.slice A30 ((cs ++ [x25]).length) (c30)]) 110 rfl rfl (.inr ⟨tk61, rfl⟩) rfl rfl rfl rfl rfl ?_
                refine VO.keep [122, 110, 102, 0] [(122, m30), (110, mone g9 (.cells [Value.int .i64 (2), Value.int .i64 (d0), Value.int .u8 (0), Value.int .i64 (0), Value.slice none (0) (0), Value.int .i64 (d2 + 1), Value.int .i64 (0), Value.slice A30 ((cs ++ [x25]).length) (c30)].toArray 72 (0, 0))), (102, mone g1 (.cells [Value.int .i64 (0), Value.int .i64 (0), Value.int .u8 (0), Value.int .i64 (0), Value.slice none (0) (0), Value.int .i64 (0), Value.int .i64 (0), Value.slice none (0) (0)].toArray 72 (0, 0))), (0, wm W)] (by kernel_rfl) ?_
                refine VO.k12 0 1 2 6 7 8 9 10 15 29 36 54 ?_
                refine outBN ?_
                refine outN ?_
                refine VC.reg ?_
                refine VO.mv ?_
                refine VO.y rfl (.add rfl rfl rfl ⟨by first | omega | (simp only [List.length_append, List.length_nil, List.length_cons, List.length_take, List.length_drop] at *; omega) | (have := wrong_len ‹¬ ¬ shipWrong d0 d1 = 0›; omega) | (have h_ := follows_room (wrong_follow ‹¬ ¬ shipWrong d0 d1 = 0›) _ (List.mem_of_getElem? ‹d1[a.toNat]? = some _›); omega), by first | omega | (simp only [List.length_append, List.length_nil, List.length_cons, List.length_take, List.length_drop] at *; omega) | (have := wrong_len ‹¬ ¬ shipWrong d0 d1 = 0›; omega) | (have h_ := follows_room (wrong_follow ‹¬ ¬ shipWrong d0 d1 = 0›) _ (List.mem_of_getElem? ‹d1[a.toNat]? = some _›); omega)⟩) ?_
                refine VO.as ?_
                refine VO.k12 0 1 2 6 7 8 9 10 15 29 36 54 ?_
                exact outN ⟨⟨a + 1, cs ++ [x25], A30, c30, m30⟩, ⟨by omega, by omega, by exact next_one hcs (by omega) ia ‹d1[a.toNat]? = some _›, by (simp only [List.length_append, List.length_cons, List.length_nil]; omega), ho30⟩, by first | omega | (simp only [List.length_append, List.length_nil, List.length_cons, List.length_take, List.length_drop] at *; omega) | (have := wrong_len ‹¬ ¬ shipWrong d0 d1 = 0›; omega) | (have h_ := follows_room (wrong_follow ‹¬ ¬ shipWrong d0 d1 = 0›) _ (List.mem_of_getElem? ‹d1[a.toNat]? = some _›); omega), ⟨⟨rfl, rfl, rfl, rfl, rfl, rfl, rfl, rfl, rfl, rfl, rfl, trivial⟩, fun _ h => Inv.sub h [122, 110, 102, 0]⟩⟩
              · -- FFFFFTF
                refine VC.exit ?_
                refine outE ?_
                refine outE ?_
                refine outBB ?_
                refine outN ?_
                refine VC.rs ?_
                refine VO.y rfl (.ldA 110 rfl tk72 rfl (cellsAt_one rfl rfl)) ?_
                refine VO.store (k := 8) (c' := [Value.int .i64 (2), Value.int .i64 (d0), Value.int .u8 (0), Value.int .i64 (0), Value.slice none (0) (0), Value.int .i64 (d2 + 1), Value.int .i64 (0), Value.slice cs_A (cs.length) (cs_c)]) 102 rfl rfl (.inl tk72) rfl rfl rfl rfl rfl ?_
                refine VO.as ?_
                refine VO.keep [122, 110, 102, 0] [(122, cs_m), (110, mone g9 (.cells [Value.int .i64 (2), Value.int .i64 (d0), Value.int .u8 (0), Value.int .i64 (0), Value.slice none (0) (0), Value.int .i64 (d2 + 1), Value.int .i64 (0), Value.slice cs_A (cs.length) (cs_c)].toArray 72 (0, 0))), (102, mone g1 (.cells [Value.int .i64 (2), Value.int .i64 (d0), Value.int .u8 (0), Value.int .i64 (0), Value.slice none (0) (0), Value.int .i64 (d2 + 1), Value.int .i64 (0), Value.slice cs_A (cs.length) (cs_c)].toArray 72 (0, 0))), (0, wm W)] (by kernel_rfl) ?_
                refine VO.k12 0 1 2 6 7 8 9 10 15 29 36 54 ?_
                refine VC.ret ?_
                refine ⟨_, _, res_run (rs := [.cell 6 72, .tmp 7]) rfl (.agg 102 rfl tk72 rfl ⟨_, _, _, mone_self _ _, Nat.le_of_ble_eq_true rfl, rfl⟩ (.tmp rfl .nil)), fun W_ hI => out_of (l := [cs_m]) hI [122] rfl rfl (mle_refl _) (fun hS_ => ?_)⟩
                dsimp only [packV]
                have he0 : ((shipNext d0 d1 d2).1 : Ty.Den TMessage) = (2, d0, 0, 0, [], d2 + 1, 0, cs) := by first | rfl | (first | (rw [next_wrong (by assumption)]; rfl) | (rw [next_arg (by assumption) (by omega)]; rfl) | (have hcs2 := next_end hcs (by omega) ia h4 (by omega); rw [next_good (by assumption) (by omega) (by omega) (by omega), ← hcs2]; first | rw [prevOf_pos (by assumption) (by assumption)] | rw [prevOf_zero (by assumption)]))
                refine ⟨[Value.int .i64 (2), Value.int .i64 (d0), Value.int .u8 (0), Value.int .i64 (0), Value.slice none (0) (0), Value.int .i64 (d2 + 1), Value.int .i64 (0), Value.slice cs_A (cs.length) (cs_c)], ?_, ?_⟩
                rotate_left
                · rw [he0]; exact (mkO_Message 2 d0 0 0 [] (d2 + 1) 0 cs (Seps.nilAt 0 hS_) (by simp only [inK]; (first | omega | (simp only [List.length_append, List.length_nil, List.length_cons, List.length_take, List.length_drop] at *; omega) | (have := wrong_len ‹¬ ¬ shipWrong d0 d1 = 0›; omega) | (have h_ := follows_room (wrong_follow ‹¬ ¬ shipWrong d0 d1 = 0›) _ (List.mem_of_getElem? ‹d1[a.toNat]? = some _›); omega))) (by simp only [inK]; (first | omega | (simp only [List.length_append, List.length_nil, List.length_cons, List.length_take, List.length_drop] at *; omega) | (have := wrong_len ‹¬ ¬ shipWrong d0 d1 = 0›; omega) | (have h_ := follows_room (wrong_follow ‹¬ ¬ shipWrong d0 d1 = 0›) _ (List.mem_of_getElem? ‹d1[a.toNat]? = some _›); omega))) (by simp only [inK]; (first | omega | (simp only [List.length_append, List.length_nil, List.length_cons, List.length_take, List.length_drop] at *; omega) | (have := wrong_len ‹¬ ¬ shipWrong d0 d1 = 0›; omega) | (have h_ := follows_room (wrong_follow ‹¬ ¬ shipWrong d0 d1 = 0›) _ (List.mem_of_getElem? ‹d1[a.toNat]? = some _›); omega))) (by simp only [inK]; (first | omega | (simp only [List.length_append, List.length_nil, List.length_cons, List.length_take, List.length_drop] at *; omega) | (have := wrong_len ‹¬ ¬ shipWrong d0 d1 = 0›; omega) | (have h_ := follows_room (wrong_follow ‹¬ ¬ shipWrong d0 d1 = 0›) _ (List.mem_of_getElem? ‹d1[a.toNat]? = some _›); omega))) (Ow.nil _ _) (by simp only [inK]; (first | omega | (simp only [List.length_append, List.length_nil, List.length_cons, List.length_take, List.length_drop] at *; omega) | (have := wrong_len ‹¬ ¬ shipWrong d0 d1 = 0›; omega) | (have h_ := follows_room (wrong_follow ‹¬ ¬ shipWrong d0 d1 = 0›) _ (List.mem_of_getElem? ‹d1[a.toNat]? = some _›); omega))) (by simp only [inK]; (first | omega | (simp only [List.length_append, List.length_nil, List.length_cons, List.length_take, List.length_drop] at *; omega) | (have := wrong_len ‹¬ ¬ shipWrong d0 d1 = 0›; omega) | (have h_ := follows_room (wrong_follow ‹¬ ¬ shipWrong d0 d1 = 0›) _ (List.mem_of_getElem? ‹d1[a.toNat]? = some _›); omega))) h_cs)
                all_goals (first | rfl | (first | (rw [next_wrong (by assumption)]; rfl) | (rw [next_arg (by assumption) (by omega)]; rfl) | (rw [next_good (by assumption) (by omega) (by omega) (by omega)]; rfl)))
            · -- FFFFFF
              refine VO.gN ?_
              refine VO.gN ?_
              refine VO.gN ?_
              refine VO.gN ?_
              refine VO.y rfl (.pF rfl rfl) ?_
              refine VO.k12 0 1 2 6 7 8 9 10 15 29 36 54 ?_
              refine VC.condF rfl ?_
              refine VC.exit ?_
              refine outE ?_
              refine outE ?_
              refine outBB ?_
              refine outN ?_
              refine VC.rs ?_
              refine VO.y rfl (.ldA 110 rfl tk72 rfl (cellsAt_one rfl rfl)) ?_
              refine VO.store (k := 8) (c' := [Value.int .i64 (2), Value.int .i64 (d0), Value.int .u8 (0), Value.int .i64 (0), Value.slice none (0) (0), Value.int .i64 (d2 + 1), Value.int .i64 (0), Value.slice cs_A (cs.length) (cs_c)]) 102 rfl rfl (.inl tk72) rfl rfl rfl rfl rfl ?_
              refine VO.as ?_
              refine VO.keep [122, 110, 102, 0] [(122, cs_m), (110, mone g9 (.cells [Value.int .i64 (2), Value.int .i64 (d0), Value.int .u8 (0), Value.int .i64 (0), Value.slice none (0) (0), Value.int .i64 (d2 + 1), Value.int .i64 (0), Value.slice cs_A (cs.length) (cs_c)].toArray 72 (0, 0))), (102, mone g1 (.cells [Value.int .i64 (2), Value.int .i64 (d0), Value.int .u8 (0), Value.int .i64 (0), Value.slice none (0) (0), Value.int .i64 (d2 + 1), Value.int .i64 (0), Value.slice cs_A (cs.length) (cs_c)].toArray 72 (0, 0))), (0, wm W)] (by kernel_rfl) ?_
              refine VO.k12 0 1 2 6 7 8 9 10 15 29 36 54 ?_
              refine VC.ret ?_
              refine ⟨_, _, res_run (rs := [.cell 6 72, .tmp 7]) rfl (.agg 102 rfl tk72 rfl ⟨_, _, _, mone_self _ _, Nat.le_of_ble_eq_true rfl, rfl⟩ (.tmp rfl .nil)), fun W_ hI => out_of (l := [cs_m]) hI [122] rfl rfl (mle_refl _) (fun hS_ => ?_)⟩
              dsimp only [packV]
              have he0 : ((shipNext d0 d1 d2).1 : Ty.Den TMessage) = (2, d0, 0, 0, [], d2 + 1, 0, cs) := by first | rfl | (first | (rw [next_wrong (by assumption)]; rfl) | (rw [next_arg (by assumption) (by omega)]; rfl) | (have hcs2 := next_end hcs (by omega) ia h4 (by omega); rw [next_good (by assumption) (by omega) (by omega) (by omega), ← hcs2]; first | rw [prevOf_pos (by assumption) (by assumption)] | rw [prevOf_zero (by assumption)]))
              refine ⟨[Value.int .i64 (2), Value.int .i64 (d0), Value.int .u8 (0), Value.int .i64 (0), Value.slice none (0) (0), Value.int .i64 (d2 + 1), Value.int .i64 (0), Value.slice cs_A (cs.length) (cs_c)], ?_, ?_⟩
              rotate_left
              · rw [he0]; exact (mkO_Message 2 d0 0 0 [] (d2 + 1) 0 cs (Seps.nilAt 0 hS_) (by simp only [inK]; (first | omega | (simp only [List.length_append, List.length_nil, List.length_cons, List.length_take, List.length_drop] at *; omega) | (have := wrong_len ‹¬ ¬ shipWrong d0 d1 = 0›; omega) | (have h_ := follows_room (wrong_follow ‹¬ ¬ shipWrong d0 d1 = 0›) _ (List.mem_of_getElem? ‹d1[a.toNat]? = some _›); omega))) (by simp only [inK]; (first | omega | (simp only [List.length_append, List.length_nil, List.length_cons, List.length_take, List.length_drop] at *; omega) | (have := wrong_len ‹¬ ¬ shipWrong d0 d1 = 0›; omega) | (have h_ := follows_room (wrong_follow ‹¬ ¬ shipWrong d0 d1 = 0›) _ (List.mem_of_getElem? ‹d1[a.toNat]? = some _›); omega))) (by simp only [inK]; (first | omega | (simp only [List.length_append, List.length_nil, List.length_cons, List.length_take, List.length_drop] at *; omega) | (have := wrong_len ‹¬ ¬ shipWrong d0 d1 = 0›; omega) | (have h_ := follows_room (wrong_follow ‹¬ ¬ shipWrong d0 d1 = 0›) _ (List.mem_of_getElem? ‹d1[a.toNat]? = some _›); omega))) (by simp only [inK]; (first | omega | (simp only [List.length_append, List.length_nil, List.length_cons, List.length_take, List.length_drop] at *; omega) | (have := wrong_len ‹¬ ¬ shipWrong d0 d1 = 0›; omega) | (have h_ := follows_room (wrong_follow ‹¬ ¬ shipWrong d0 d1 = 0›) _ (List.mem_of_getElem? ‹d1[a.toNat]? = some _›); omega))) (Ow.nil _ _) (by simp only [inK]; (first | omega | (simp only [List.length_append, List.length_nil, List.length_cons, List.length_take, List.length_drop] at *; omega) | (have := wrong_len ‹¬ ¬ shipWrong d0 d1 = 0›; omega) | (have h_ := follows_room (wrong_follow ‹¬ ¬ shipWrong d0 d1 = 0›) _ (List.mem_of_getElem? ‹d1[a.toNat]? = some _›); omega))) (by simp only [inK]; (first | omega | (simp only [List.length_append, List.length_nil, List.length_cons, List.length_take, List.length_drop] at *; omega) | (have := wrong_len ‹¬ ¬ shipWrong d0 d1 = 0›; omega) | (have h_ := follows_room (wrong_follow ‹¬ ¬ shipWrong d0 d1 = 0›) _ (List.mem_of_getElem? ‹d1[a.toNat]? = some _›); omega))) h_cs)
              all_goals (first | rfl | (first | (rw [next_wrong (by assumption)]; rfl) | (rw [next_arg (by assumption) (by omega)]; rfl) | (rw [next_good (by assumption) (by omega) (by omega) (by omega)]; rfl)))
end
section
set_option linter.unusedVariables false
set_option linter.unusedSimpArgs false
set_option maxRecDepth 4000
theorem fnOk73 : fnOk Try.prog 73 = true := by kernel_rfl
theorem fnOk74 : fnOk Try.prog 74 = true := by kernel_rfl
theorem fnOk75 : fnOk Try.prog 75 = true := by kernel_rfl
theorem fnOk76 : fnOk Try.prog 76 = true := by kernel_rfl
theorem fnOk72 : fnOk Try.prog 72 = true := by kernel_rfl
set_option maxHeartbeats 1000000 in
theorem shipCalls_ok (W : World) (d0 : Int) (h0 : inK .i64 d0) (d1 : Int) (h1 : inK .u8 d1) {v2 : Value} {d2 : List DCommit} (h2 : Rd (.sl TCommit) (wm W) [v2] d2) (d3 : Int) (h3 : inK .i64 d3) (e0 : ∀ c ∈ d2, ∀ o ∈ c.2.2, o.2.1.length ≤ 140737488400000) : CallR Try.prog 16 [.int .i64 d0, .int .u8 d1, v2, .int .i64 d3] W (mnil) (fun v m' => v = .bool true) := by
  have h0' := h0; simp only [inK] at h0'
  have h1' := h1; simp only [inK] at h1'
  obtain ⟨A2, c2, rfl, l2, k2⟩ := h2.slice
  simp only [maxLen] at k2
  have h3' := h3; simp only [inK] at h3'
  refine CallR.ofA (n := 127) Try.func16 rfl rfl rfl ?_
  refine VC.rs ?_
  refine VO.as ?_
  refine VO.k5 0 1 2 3 8 ?_
  refine VC.seq ?_
  refine VC.rs ?_
  refine VO.callN 101 rfl fnOk70 rfl (fun W hW => lives17_ok W ) (fun v1 m1 hv1 => ?_)
  subst hv1
  refine VO.y rfl (.not rfl) ?_
  refine VO.k6 0 1 2 3 8 26 ?_
  refine VC.condF rfl ?_
  refine VC.skip ?_
  refine outN ?_
  refine VC.seq ?_
  refine VC.rs ?_
  refine VO.mv ?_
  refine VO.callN 102 rfl fnOk72 rfl (fun W hW => small17_ok W (Rd.mono h2 (hW.at (i := 0) rfl))) (fun v2 m2 hv2 => ?_)
  subst hv2
  refine VO.y rfl (.notD rfl) ?_
  refine VO.keep [0] [(0, wm W)] (by kernel_rfl) ?_
  refine VO.k7 0 1 2 3 8 26 29 ?_
  refine VC.cond rfl (fun hc3 => ?_) (fun hc3 => ?_)
  · -- T
    refine VC.rs ?_
    refine VO.as ?_
    refine VO.k7 0 1 2 3 8 26 29 ?_
    refine VC.ret ?_
    refine outR ?_
    refine ⟨_, _, res_run (rs := [.tmp 8]) rfl (.tmp rfl .nil), fun W_ hI => out_of (l := []) hI [] rfl rfl (mle_refl _) (fun hS_ => ?_)⟩
    dsimp only [packV]
    all_goals (first | rfl | (simp [*]; done))
  · -- F
    refine VC.skip ?_
    refine outN ?_
    refine VC.rs ?_
    refine VO.mv ?_
    refine VO.callN 104 rfl fnOk53 rfl (fun W hW => LentCommits_ok W (Rd.mono h2 (hW.at (i := 0) rfl)) (by first | omega | (simp only [List.length_append, List.length_nil, List.length_cons, List.length_take, List.length_drop] at *; omega) | exact fun c hc => by have h_ := (Decidable.not_not.1 ‹¬ ¬ ((∀ c ∈ d2, c.2.2.length ≤ 40) ∧ _)›).1 c hc; omega) (by exact fun c hc => by have h_ := (Decidable.not_not.1 ‹¬ ¬ ((∀ c ∈ d2, c.2.2.length ≤ 40) ∧ _)›).1 c hc; omega)) (fun v4 m4 hv4 => ?_)
    obtain ⟨s4_0, rfl, f4_0⟩ := hv4
    obtain ⟨A4_0, c4_0, eq4_0, l4_0, k4_0⟩ := f4_0.slice
    subst eq4_0
    simp only [maxLen] at k4_0
    have hfa5 := lent_len d2
    refine VO.as ?_
    refine VO.k8 0 1 2 3 8 9 26 29 ?_
    refine VC.rs ?_
    refine VO.mv ?_
    refine VO.mv ?_
    refine VO.y rfl (.lenS rfl tsl61) ?_
    have hs6 := (Ow.rd f4_0 (mle_refl _)).pre (j := d2.length) (by first | omega | (simp only [List.length_append, List.length_nil, List.length_cons, List.length_take, List.length_drop] at *; omega) | exact fun c hc => by have h_ := (Decidable.not_not.1 ‹¬ ¬ ((∀ c ∈ d2, c.2.2.length ≤ 40) ∧ _)›).1 c hc; omega)
    refine VO.y rfl (.slHI d2.length rfl rfl tsl61 rfl (by first | omega | (simp only [List.length_append, List.length_nil, List.length_cons, List.length_take, List.length_drop] at *; omega) | exact fun c hc => by have h_ := (Decidable.not_not.1 ‹¬ ¬ ((∀ c ∈ d2, c.2.2.length ≤ 40) ∧ _)›).1 c hc; omega)) ?_
    refine VO.as ?_
    refine VO.k9 0 1 2 3 8 9 10 26 29 ?_
    refine VC.rs ?_
    refine VO.mv ?_
    refine VO.mv ?_
    refine VO.mv ?_
    refine VO.callN 107 rfl fnOk67 rfl (fun W hW => hello_ok W d0 (by simp only [inK]; (first | omega | (simp only [List.length_append, List.length_nil, List.length_cons, List.length_take, List.length_drop] at *; omega) | exact fun c hc => by have h_ := (Decidable.not_not.1 ‹¬ ¬ ((∀ c ∈ d2, c.2.2.length ≤ 40) ∧ _)›).1 c hc; omega)) d1 (by simp only [inK]; (first | omega | (simp only [List.length_append, List.length_nil, List.length_cons, List.length_take, List.length_drop] at *; omega) | exact fun c hc => by have h_ := (Decidable.not_not.1 ‹¬ ¬ ((∀ c ∈ d2, c.2.2.length ≤ 40) ∧ _)›).1 c hc; omega)) (lent_rd (Ow.rd (f4_0.pre (j := d2.length) (by first | omega | (simp only [List.length_append, List.length_nil, List.length_cons, List.length_take, List.length_drop] at *; omega) | exact fun c hc => by have h_ := (Decidable.not_not.1 ‹¬ ¬ ((∀ c ∈ d2, c.2.2.length ≤ 40) ∧ _)›).1 c hc; omega)) (hW.at (i := 104) rfl))) (by first | omega | (simp only [List.length_append, List.length_nil, List.length_cons, List.length_take, List.length_drop] at *; omega) | exact fun c hc => by have h_ := (Decidable.not_not.1 ‹¬ ¬ ((∀ c ∈ d2, c.2.2.length ≤ 40) ∧ _)›).1 c hc; omega)) (fun v7 m7 hv7 => ?_)
    obtain ⟨s7_0, rfl, f7_0⟩ := hv7
    obtain ⟨q7_0_A4, q7_0_c4, q7_0_A7, q7_0_c7, q7_0_n4, q7_0_n7, rfl, q7_0_S, q7_0_0, q7_0_1, q7_0_2, q7_0_3, q7_0_4, q7_0_5, q7_0_6, q7_0_7⟩ := openO_Message (x0 := ((shipHello d0 d1 d2).1).1) (x1 := ((shipHello d0 d1 d2).1).2.1) (x2 := ((shipHello d0 d1 d2).1).2.2.1) (x3 := ((shipHello d0 d1 d2).1).2.2.2.1) (x4 := ((shipHello d0 d1 d2).1).2.2.2.2.1) (x5 := ((shipHello d0 d1 d2).1).2.2.2.2.2.1) (x6 := ((shipHello d0 d1 d2).1).2.2.2.2.2.2.1) (x7 := ((shipHello d0 d1 d2).1).2.2.2.2.2.2.2) f7_0
    simp only [inK] at q7_0_0
    simp only [inK] at q7_0_1
    simp only [inK] at q7_0_2
    simp only [inK] at q7_0_3
    have q7_0_r4 := Rd.room (q7_0_4.rd (mle_refl _))
    simp only [inK] at q7_0_5
    simp only [inK] at q7_0_6
    have q7_0_r7 := Rd.room (q7_0_7.rd (mle_refl _))
    refine VO.inv _ (fun _ h => h.parts (i := 107) rfl q7_0_S [108, 109]) ?_
    refine VO.mv ?_
    refine VO.y rfl (.ext rfl rfl) ?_
    refine VO.y rfl (.ext rfl rfl) ?_
    refine VO.alloc 111 rfl tz72 (fun g10 => ?_)
    refine VO.store (k := 8) (c' := [Value.int .i64 (((shipHello d0 d1 d2).1).1), Value.int .i64 (((shipHello d0 d1 d2).1).2.1), Value.int .u8 (((shipHello d0 d1 d2).1).2.2.1), Value.int .i64 (((shipHello d0 d1 d2).1).2.2.2.1), Value.slice q7_0_A4 ((((shipHello d0 d1 d2).1).2.2.2.2.1).length) (q7_0_c4), Value.int .i64 (((shipHello d0 d1 d2).1).2.2.2.2.2.1), Value.int .i64 (((shipHello d0 d1 d2).1).2.2.2.2.2.2.1), Value.slice q7_0_A7 ((((shipHello d0 d1 d2).1).2.2.2.2.2.2.2).length) (q7_0_c7)]) 111 rfl rfl (.inl tk72) rfl rfl rfl rfl rfl ?_
    refine VO.as ?_
    refine VO.keep [111, 108, 109, 104, 0] [(111, mone g10 (.cells [Value.int .i64 (((shipHello d0 d1 d2).1).1), Value.int .i64 (((shipHello d0 d1 d2).1).2.1), Value.int .u8 (((shipHello d0 d1 d2).1).2.2.1), Value.int .i64 (((shipHello d0 d1 d2).1).2.2.2.1), Value.slice q7_0_A4 ((((shipHello d0 d1 d2).1).2.2.2.2.1).length) (q7_0_c4), Value.int .i64 (((shipHello d0 d1 d2).1).2.2.2.2.2.1), Value.int .i64 (((shipHello d0 d1 d2).1).2.2.2.2.2.2.1), Value.slice q7_0_A7 ((((shipHello d0 d1 d2).1).2.2.2.2.2.2.2).length) (q7_0_c7)].toArray 72 (0, 0))), (108, q7_0_n4), (109, q7_0_n7), (104, m4), (0, wm W)] (by kernel_rfl) ?_
    refine VO.k11 0 1 2 3 8 9 10 11 12 26 29 ?_
    refine VC.rs ?_
    refine VO.mv ?_
    refine VO.mv ?_
    refine VO.mv ?_
    refine VO.callN 112 rfl fnOk73 rfl (fun W hW => hello17_ok W d0 (by simp only [inK]; (first | omega | (simp only [List.length_append, List.length_nil, List.length_cons, List.length_take, List.length_drop] at *; omega) | exact fun c hc => by have h_ := (Decidable.not_not.1 ‹¬ ¬ ((∀ c ∈ d2, c.2.2.length ≤ 40) ∧ _)›).1 c hc; omega)) d1 (by simp only [inK]; (first | omega | (simp only [List.length_append, List.length_nil, List.length_cons, List.length_take, List.length_drop] at *; omega) | exact fun c hc => by have h_ := (Decidable.not_not.1 ‹¬ ¬ ((∀ c ∈ d2, c.2.2.length ≤ 40) ∧ _)›).1 c hc; omega)) (Rd.mono h2 (hW.at (i := 0) rfl)) (by first | omega | (simp only [List.length_append, List.length_nil, List.length_cons, List.length_take, List.length_drop] at *; omega) | exact fun c hc => by have h_ := (Decidable.not_not.1 ‹¬ ¬ ((∀ c ∈ d2, c.2.2.length ≤ 40) ∧ _)›).1 c hc; omega)) (fun v12 m12 hv12 => ?_)
    obtain ⟨s12_0, rfl, f12_0⟩ := hv12
    obtain ⟨q12_0_A4, q12_0_c4, q12_0_A7, q12_0_c7, q12_0_n4, q12_0_n7, rfl, q12_0_S, q12_0_0, q12_0_1, q12_0_2, q12_0_3, q12_0_4, q12_0_5, q12_0_6, q12_0_7⟩ := openO_Message (x0 := ((shipHello d0 d1 d2).1).1) (x1 := ((shipHello d0 d1 d2).1).2.1) (x2 := ((shipHello d0 d1 d2).1).2.2.1) (x3 := ((shipHello d0 d1 d2).1).2.2.2.1) (x4 := ((shipHello d0 d1 d2).1).2.2.2.2.1) (x5 := ((shipHello d0 d1 d2).1).2.2.2.2.2.1) (x6 := ((shipHello d0 d1 d2).1).2.2.2.2.2.2.1) (x7 := ((shipHello d0 d1 d2).1).2.2.2.2.2.2.2) f12_0
    simp only [inK] at q12_0_0
    simp only [inK] at q12_0_1
    simp only [inK] at q12_0_2
    simp only [inK] at q12_0_3
    have q12_0_r4 := Rd.room (q12_0_4.rd (mle_refl _))
    simp only [inK] at q12_0_5
    simp only [inK] at q12_0_6
    have q12_0_r7 := Rd.room (q12_0_7.rd (mle_refl _))
    refine VO.inv _ (fun _ h => h.parts (i := 112) rfl q12_0_S [113, 114]) ?_
    refine VO.mv ?_
    refine VO.y rfl (.ext rfl rfl) ?_
    refine VO.y rfl (.ext rfl rfl) ?_
    refine VO.alloc 116 rfl tz72 (fun g15 => ?_)
    refine VO.store (k := 8) (c' := [Value.int .i64 (((shipHello d0 d1 d2).1).1), Value.int .i64 (((shipHello d0 d1 d2).1).2.1), Value.int .u8 (((shipHello d0 d1 d2).1).2.2.1), Value.int .i64 (((shipHello d0 d1 d2).1).2.2.2.1), Value.slice q12_0_A4 ((((shipHello d0 d1 d2).1).2.2.2.2.1).length) (q12_0_c4), Value.int .i64 (((shipHello d0 d1 d2).1).2.2.2.2.2.1), Value.int .i64 (((shipHello d0 d1 d2).1).2.2.2.2.2.2.1), Value.slice q12_0_A7 ((((shipHello d0 d1 d2).1).2.2.2.2.2.2.2).length) (q12_0_c7)]) 116 rfl rfl (.inl tk72) rfl rfl rfl rfl rfl ?_
    refine VO.as ?_
    refine VO.k13 0 1 2 3 8 9 10 11 12 13 14 26 29 ?_
    refine VC.rs ?_
    refine VO.mv ?_
    refine VO.mv ?_
    refine VO.mv ?_
    refine VO.callN 117 rfl fnOk65 rfl (fun W hW => next_ok W d0 (by simp only [inK]; (first | omega | (simp only [List.length_append, List.length_nil, List.length_cons, List.length_take, List.length_drop] at *; omega) | exact fun c hc => by have h_ := (Decidable.not_not.1 ‹¬ ¬ ((∀ c ∈ d2, c.2.2.length ≤ 40) ∧ _)›).1 c hc; omega)) (lent_rd (Ow.rd (f4_0.pre (j := d2.length) (by first | omega | (simp only [List.length_append, List.length_nil, List.length_cons, List.length_take, List.length_drop] at *; omega) | exact fun c hc => by have h_ := (Decidable.not_not.1 ‹¬ ¬ ((∀ c ∈ d2, c.2.2.length ≤ 40) ∧ _)›).1 c hc; omega)) (hW.at (i := 104) rfl))) d3 (by simp only [inK]; (first | omega | (simp only [List.length_append, List.length_nil, List.length_cons, List.length_take, List.length_drop] at *; omega) | exact fun c hc => by have h_ := (Decidable.not_not.1 ‹¬ ¬ ((∀ c ∈ d2, c.2.2.length ≤ 40) ∧ _)›).1 c hc; omega))) (fun v17 m17 hv17 => ?_)
    obtain ⟨s17_0, rfl, f17_0⟩ := hv17
    obtain ⟨q17_0_A4, q17_0_c4, q17_0_A7, q17_0_c7, q17_0_n4, q17_0_n7, rfl, q17_0_S, q17_0_0, q17_0_1, q17_0_2, q17_0_3, q17_0_4, q17_0_5, q17_0_6, q17_0_7⟩ := openO_Message (x0 := ((shipNext d0 d2 d3).1).1) (x1 := ((shipNext d0 d2 d3).1).2.1) (x2 := ((shipNext d0 d2 d3).1).2.2.1) (x3 := ((shipNext d0 d2 d3).1).2.2.2.1) (x4 := ((shipNext d0 d2 d3).1).2.2.2.2.1) (x5 := ((shipNext d0 d2 d3).1).2.2.2.2.2.1) (x6 := ((shipNext d0 d2 d3).1).2.2.2.2.2.2.1) (x7 := ((shipNext d0 d2 d3).1).2.2.2.2.2.2.2) f17_0
    simp only [inK] at q17_0_0
    simp only [inK] at q17_0_1
    simp only [inK] at q17_0_2
    simp only [inK] at q17_0_3
    have q17_0_r4 := Rd.room (q17_0_4.rd (mle_refl _))
    simp only [inK] at q17_0_5
    simp only [inK] at q17_0_6
    have q17_0_r7 := Rd.room (q17_0_7.rd (mle_refl _))
    refine VO.inv _ (fun _ h => h.parts (i := 117) rfl q17_0_S [118, 119]) ?_
    refine VO.mv ?_
    refine VO.y rfl (.ext rfl rfl) ?_
    refine VO.y rfl (.ext rfl rfl) ?_
    refine VO.alloc 121 rfl tz72 (fun g20 => ?_)
    refine VO.store (k := 8) (c' := [Value.int .i64 (((shipNext d0 d2 d3).1).1), Value.int .i64 (((shipNext d0 d2 d3).1).2.1), Value.int .u8 (((shipNext d0 d2 d3).1).2.2.1), Value.int .i64 (((shipNext d0 d2 d3).1).2.2.2.1), Value.slice q17_0_A4 ((((shipNext d0 d2 d3).1).2.2.2.2.1).length) (q17_0_c4), Value.int .i64 (((shipNext d0 d2 d3).1).2.2.2.2.2.1), Value.int .i64 (((shipNext d0 d2 d3).1).2.2.2.2.2.2.1), Value.slice q17_0_A7 ((((shipNext d0 d2 d3).1).2.2.2.2.2.2.2).length) (q17_0_c7)]) 121 rfl rfl (.inl tk72) rfl rfl rfl rfl rfl ?_
    refine VO.as ?_
    refine VO.k15 0 1 2 3 8 9 10 11 12 13 14 15 16 26 29 ?_
    refine VC.rs ?_
    refine VO.mv ?_
    refine VO.mv ?_
    refine VO.mv ?_
    refine VO.callN 122 rfl fnOk65 rfl (fun W hW => next_ok W d0 (by simp only [inK]; (first | omega | (simp only [List.length_append, List.length_nil, List.length_cons, List.length_take, List.length_drop] at *; omega) | exact fun c hc => by have h_ := (Decidable.not_not.1 ‹¬ ¬ ((∀ c ∈ d2, c.2.2.length ≤ 40) ∧ _)›).1 c hc; omega)) (lent_rd (Ow.rd (f4_0.pre (j := d2.length) (by first | omega | (simp only [List.length_append, List.length_nil, List.length_cons, List.length_take, List.length_drop] at *; omega) | exact fun c hc => by have h_ := (Decidable.not_not.1 ‹¬ ¬ ((∀ c ∈ d2, c.2.2.length ≤ 40) ∧ _)›).1 c hc; omega)) (hW.at (i := 104) rfl))) d3 (by simp only [inK]; (first | omega | (simp only [List.length_append, List.length_nil, List.length_cons, List.length_take, List.length_drop] at *; omega) | exact fun c hc => by have h_ := (Decidable.not_not.1 ‹¬ ¬ ((∀ c ∈ d2, c.2.2.length ≤ 40) ∧ _)›).1 c hc; omega))) (fun v22 m22 hv22 => ?_)
    obtain ⟨s22_0, rfl, f22_0⟩ := hv22
    obtain ⟨q22_0_A4, q22_0_c4, q22_0_A7, q22_0_c7, q22_0_n4, q22_0_n7, rfl, q22_0_S, q22_0_0, q22_0_1, q22_0_2, q22_0_3, q22_0_4, q22_0_5, q22_0_6, q22_0_7⟩ := openO_Message (x0 := ((shipNext d0 d2 d3).1).1) (x1 := ((shipNext d0 d2 d3).1).2.1) (x2 := ((shipNext d0 d2 d3).1).2.2.1) (x3 := ((shipNext d0 d2 d3).1).2.2.2.1) (x4 := ((shipNext d0 d2 d3).1).2.2.2.2.1) (x5 := ((shipNext d0 d2 d3).1).2.2.2.2.2.1) (x6 := ((shipNext d0 d2 d3).1).2.2.2.2.2.2.1) (x7 := ((shipNext d0 d2 d3).1).2.2.2.2.2.2.2) f22_0
    simp only [inK] at q22_0_0
    simp only [inK] at q22_0_1
    simp only [inK] at q22_0_2
    simp only [inK] at q22_0_3
    have q22_0_r4 := Rd.room (q22_0_4.rd (mle_refl _))
    simp only [inK] at q22_0_5
    simp only [inK] at q22_0_6
    have q22_0_r7 := Rd.room (q22_0_7.rd (mle_refl _))
    refine VO.inv _ (fun _ h => h.parts (i := 122) rfl q22_0_S [123, 124]) ?_
    refine VO.mv ?_
    refine VO.y rfl (.ext rfl rfl) ?_
    refine VO.y rfl (.ext rfl rfl) ?_
    refine VO.alloc 126 rfl tz72 (fun g25 => ?_)
    refine VO.store (k := 8) (c' := [Value.int .i64 (((shipNext d0 d2 d3).1).1), Value.int .i64 (((shipNext d0 d2 d3).1).2.1), Value.int .u8 (((shipNext d0 d2 d3).1).2.2.1), Value.int .i64 (((shipNext d0 d2 d3).1).2.2.2.1), Value.slice q22_0_A4 ((((shipNext d0 d2 d3).1).2.2.2.2.1).length) (q22_0_c4), Value.int .i64 (((shipNext d0 d2 d3).1).2.2.2.2.2.1), Value.int .i64 (((shipNext d0 d2 d3).1).2.2.2.2.2.2.1), Value.slice q22_0_A7 ((((shipNext d0 d2 d3).1).2.2.2.2.2.2.2).length) (q22_0_c7)]) 126 rfl rfl (.inl tk72) rfl rfl rfl rfl rfl ?_
    refine VO.as ?_
    refine VO.keep [126, 123, 124, 121, 118, 119, 116, 113, 114, 111, 108, 109, 104, 0] [(126, mone g25 (.cells [Value.int .i64 (((shipNext d0 d2 d3).1).1), Value.int .i64 (((shipNext d0 d2 d3).1).2.1), Value.int .u8 (((shipNext d0 d2 d3).1).2.2.1), Value.int .i64 (((shipNext d0 d2 d3).1).2.2.2.1), Value.slice q22_0_A4 ((((shipNext d0 d2 d3).1).2.2.2.2.1).length) (q22_0_c4), Value.int .i64 (((shipNext d0 d2 d3).1).2.2.2.2.2.1), Value.int .i64 (((shipNext d0 d2 d3).1).2.2.2.2.2.2.1), Value.slice q22_0_A7 ((((shipNext d0 d2 d3).1).2.2.2.2.2.2.2).length) (q22_0_c7)].toArray 72 (0, 0))), (123, q22_0_n4), (124, q22_0_n7), (121, mone g20 (.cells [Value.int .i64 (((shipNext d0 d2 d3).1).1), Value.int .i64 (((shipNext d0 d2 d3).1).2.1), Value.int .u8 (((shipNext d0 d2 d3).1).2.2.1), Value.int .i64 (((shipNext d0 d2 d3).1).2.2.2.1), Value.slice q17_0_A4 ((((shipNext d0 d2 d3).1).2.2.2.2.1).length) (q17_0_c4), Value.int .i64 (((shipNext d0 d2 d3).1).2.2.2.2.2.1), Value.int .i64 (((shipNext d0 d2 d3).1).2.2.2.2.2.2.1), Value.slice q17_0_A7 ((((shipNext d0 d2 d3).1).2.2.2.2.2.2.2).length) (q17_0_c7)].toArray 72 (0, 0))), (118, q17_0_n4), (119, q17_0_n7), (116, mone g15 (.cells [Value.int .i64 (((shipHello d0 d1 d2).1).1), Value.int .i64 (((shipHello d0 d1 d2).1).2.1), Value.int .u8 (((shipHello d0 d1 d2).1).2.2.1), Value.int .i64 (((shipHello d0 d1 d2).1).2.2.2.1), Value.slice q12_0_A4 ((((shipHello d0 d1 d2).1).2.2.2.2.1).length) (q12_0_c4), Value.int .i64 (((shipHello d0 d1 d2).1).2.2.2.2.2.1), Value.int .i64 (((shipHello d0 d1 d2).1).2.2.2.2.2.2.1), Value.slice q12_0_A7 ((((shipHello d0 d1 d2).1).2.2.2.2.2.2.2).length) (q12_0_c7)].toArray 72 (0, 0))), (113, q12_0_n4), (114, q12_0_n7), (111, mone g10 (.cells [Value.int .i64 (((shipHello d0 d1 d2).1).1), Value.int .i64 (((shipHello d0 d1 d2).1).2.1), Value.int .u8 (((shipHello d0 d1 d2).1).2.2.1), Value.int .i64 (((shipHello d0 d1 d2).1).2.2.2.1), Value.slice q7_0_A4 ((((shipHello d0 d1 d2).1).2.2.2.2.1).length) (q7_0_c4), Value.int .i64 (((shipHello d0 d1 d2).1).2.2.2.2.2.1), Value.int .i64 (((shipHello d0 d1 d2).1).2.2.2.2.2.2.1), Value.slice q7_0_A7 ((((shipHello d0 d1 d2).1).2.2.2.2.2.2.2).length) (q7_0_c7)].toArray 72 (0, 0))), (108, q7_0_n4), (109, q7_0_n7), (104, m4), (0, wm W)] (by kernel_rfl) ?_
    refine VO.k16 0 1 2 3 8 9 10 11 12 13 14 15 16 17 26 29 ?_
    refine VC.rs ?_
    refine VO.mv ?_
    refine VO.mv ?_
    refine VO.mv ?_
    refine VO.callN 127 rfl fnOk74 rfl (fun W hW => next17_ok W d0 (by simp only [inK]; (first | omega | (simp only [List.length_append, List.length_nil, List.length_cons, List.length_take, List.length_drop] at *; omega) | exact fun c hc => by have h_ := (Decidable.not_not.1 ‹¬ ¬ ((∀ c ∈ d2, c.2.2.length ≤ 40) ∧ _)›).1 c hc; omega)) (Rd.mono h2 (hW.at (i := 0) rfl)) d3 (by simp only [inK]; (first | omega | (simp only [List.length_append, List.length_nil, List.length_cons, List.length_take, List.length_drop] at *; omega) | exact fun c hc => by have h_ := (Decidable.not_not.1 ‹¬ ¬ ((∀ c ∈ d2, c.2.2.length ≤ 40) ∧ _)›).1 c hc; omega))) (fun v27 m27 hv27 => ?_)
    obtain ⟨s27_0, rfl, f27_0⟩ := hv27
    obtain ⟨q27_0_A4, q27_0_c4, q27_0_A7, q27_0_c7, q27_0_n4, q27_0_n7, rfl, q27_0_S, q27_0_0, q27_0_1, q27_0_2, q27_0_3, q27_0_4, q27_0_5, q27_0_6, q27_0_7⟩ := openO_Message (x0 := ((shipNext d0 d2 d3).1).1) (x1 := ((shipNext d0 d2 d3).1).2.1) (x2 := ((shipNext d0 d2 d3).1).2.2.1) (x3 := ((shipNext d0 d2 d3).1).2.2.2.1) (x4 := ((shipNext d0 d2 d3).1).2.2.2.2.1) (x5 := ((shipNext d0 d2 d3).1).2.2.2.2.2.1) (x6 := ((shipNext d0 d2 d3).1).2.2.2.2.2.2.1) (x7 := ((shipNext d0 d2 d3).1).2.2.2.2.2.2.2) f27_0
    simp only [inK] at q27_0_0
    simp only [inK] at q27_0_1
    simp only [inK] at q27_0_2
    simp only [inK] at q27_0_3
    have q27_0_r4 := Rd.room (q27_0_4.rd (mle_refl _))
    simp only [inK] at q27_0_5
    simp only [inK] at q27_0_6
    have q27_0_r7 := Rd.room (q27_0_7.rd (mle_refl _))
    refine VO.inv _ (fun _ h => h.parts (i := 127) rfl q27_0_S [128, 129]) ?_
    refine VO.mv ?_
    refine VO.y rfl (.ext rfl rfl) ?_
    refine VO.y rfl (.ext rfl rfl) ?_
    refine VO.alloc 131 rfl tz72 (fun g30 => ?_)
    refine VO.store (k := 8) (c' := [Value.int .i64 (((shipNext d0 d2 d3).1).1), Value.int .i64 (((shipNext d0 d2 d3).1).2.1), Value.int .u8 (((shipNext d0 d2 d3).1).2.2.1), Value.int .i64 (((shipNext d0 d2 d3).1).2.2.2.1), Value.slice q27_0_A4 ((((shipNext d0 d2 d3).1).2.2.2.2.1).length) (q27_0_c4), Value.int .i64 (((shipNext d0 d2 d3).1).2.2.2.2.2.1), Value.int .i64 (((shipNext d0 d2 d3).1).2.2.2.2.2.2.1), Value.slice q27_0_A7 ((((shipNext d0 d2 d3).1).2.2.2.2.2.2.2).length) (q27_0_c7)]) 131 rfl rfl (.inl tk72) rfl rfl rfl rfl rfl ?_
    refine VO.as ?_
    refine VO.k18 0 1 2 3 8 9 10 11 12 13 14 15 16 17 19 20 26 29 ?_
    refine VC.rs ?_
    refine VO.mv ?_
    refine VO.mv ?_
    refine VO.callN 132 rfl fnOk68 rfl (fun W hW => ack_ok W d0 (by simp only [inK]; (first | omega | (simp only [List.length_append, List.length_nil, List.length_cons, List.length_take, List.length_drop] at *; omega) | exact fun c hc => by have h_ := (Decidable.not_not.1 ‹¬ ¬ ((∀ c ∈ d2, c.2.2.length ≤ 40) ∧ _)›).1 c hc; omega)) d3 (by simp only [inK]; (first | omega | (simp only [List.length_append, List.length_nil, List.length_cons, List.length_take, List.length_drop] at *; omega) | exact fun c hc => by have h_ := (Decidable.not_not.1 ‹¬ ¬ ((∀ c ∈ d2, c.2.2.length ≤ 40) ∧ _)›).1 c hc; omega))) (fun v32 m32 hv32 => ?_)
    obtain ⟨s32_0, rfl, f32_0⟩ := hv32
    obtain ⟨q32_0_A4, q32_0_c4, q32_0_A7, q32_0_c7, q32_0_n4, q32_0_n7, rfl, q32_0_S, q32_0_0, q32_0_1, q32_0_2, q32_0_3, q32_0_4, q32_0_5, q32_0_6, q32_0_7⟩ := openO_Message (x0 := ((shipAck d0 d3).1).1) (x1 := ((shipAck d0 d3).1).2.1) (x2 := ((shipAck d0 d3).1).2.2.1) (x3 := ((shipAck d0 d3).1).2.2.2.1) (x4 := ((shipAck d0 d3).1).2.2.2.2.1) (x5 := ((shipAck d0 d3).1).2.2.2.2.2.1) (x6 := ((shipAck d0 d3).1).2.2.2.2.2.2.1) (x7 := ((shipAck d0 d3).1).2.2.2.2.2.2.2) f32_0
    simp only [inK] at q32_0_0
    simp only [inK] at q32_0_1
    simp only [inK] at q32_0_2
    simp only [inK] at q32_0_3
    have q32_0_r4 := Rd.room (q32_0_4.rd (mle_refl _))
    simp only [inK] at q32_0_5
    simp only [inK] at q32_0_6
    have q32_0_r7 := Rd.room (q32_0_7.rd (mle_refl _))
    refine VO.inv _ (fun _ h => h.parts (i := 132) rfl q32_0_S [133, 134]) ?_
    refine VO.mv ?_
    refine VO.y rfl (.ext rfl rfl) ?_
    refine VO.y rfl (.ext rfl rfl) ?_
    refine VO.alloc 136 rfl tz72 (fun g35 => ?_)
    refine VO.store (k := 8) (c' := [Value.int .i64 (((shipAck d0 d3).1).1), Value.int .i64 (((shipAck d0 d3).1).2.1), Value.int .u8 (((shipAck d0 d3).1).2.2.1), Value.int .i64 (((shipAck d0 d3).1).2.2.2.1), Value.slice q32_0_A4 ((((shipAck d0 d3).1).2.2.2.2.1).length) (q32_0_c4), Value.int .i64 (((shipAck d0 d3).1).2.2.2.2.2.1), Value.int .i64 (((shipAck d0 d3).1).2.2.2.2.2.2.1), Value.slice q32_0_A7 ((((shipAck d0 d3).1).2.2.2.2.2.2.2).length) (q32_0_c7)]) 136 rfl rfl (.inl tk72) rfl rfl rfl rfl rfl ?_
    refine VO.as ?_
    refine VO.k20 0 1 2 3 8 9 10 11 12 13 14 15 16 17 19 20 21 22 26 29 ?_
    refine VC.rs ?_
    refine VO.mv ?_
    refine VO.mv ?_
    refine VO.callN 137 rfl fnOk75 rfl (fun W hW => ack17_ok W d0 (by simp only [inK]; (first | omega | (simp only [List.length_append, List.length_nil, List.length_cons, List.length_take, List.length_drop] at *; omega) | exact fun c hc => by have h_ := (Decidable.not_not.1 ‹¬ ¬ ((∀ c ∈ d2, c.2.2.length ≤ 40) ∧ _)›).1 c hc; omega)) d3 (by simp only [inK]; (first | omega | (simp only [List.length_append, List.length_nil, List.length_cons, List.length_take, List.length_drop] at *; omega) | exact fun c hc => by have h_ := (Decidable.not_not.1 ‹¬ ¬ ((∀ c ∈ d2, c.2.2.length ≤ 40) ∧ _)›).1 c hc; omega))) (fun v37 m37 hv37 => ?_)
    obtain ⟨s37_0, rfl, f37_0⟩ := hv37
    obtain ⟨q37_0_A4, q37_0_c4, q37_0_A7, q37_0_c7, q37_0_n4, q37_0_n7, rfl, q37_0_S, q37_0_0, q37_0_1, q37_0_2, q37_0_3, q37_0_4, q37_0_5, q37_0_6, q37_0_7⟩ := openO_Message (x0 := ((shipAck d0 d3).1).1) (x1 := ((shipAck d0 d3).1).2.1) (x2 := ((shipAck d0 d3).1).2.2.1) (x3 := ((shipAck d0 d3).1).2.2.2.1) (x4 := ((shipAck d0 d3).1).2.2.2.2.1) (x5 := ((shipAck d0 d3).1).2.2.2.2.2.1) (x6 := ((shipAck d0 d3).1).2.2.2.2.2.2.1) (x7 := ((shipAck d0 d3).1).2.2.2.2.2.2.2) f37_0
    simp only [inK] at q37_0_0
    simp only [inK] at q37_0_1
    simp only [inK] at q37_0_2
    simp only [inK] at q37_0_3
    have q37_0_r4 := Rd.room (q37_0_4.rd (mle_refl _))
    simp only [inK] at q37_0_5
    simp only [inK] at q37_0_6
    have q37_0_r7 := Rd.room (q37_0_7.rd (mle_refl _))
    refine VO.inv _ (fun _ h => h.parts (i := 137) rfl q37_0_S [138, 139]) ?_
    refine VO.mv ?_
    refine VO.y rfl (.ext rfl rfl) ?_
    refine VO.y rfl (.ext rfl rfl) ?_
    refine VO.alloc 141 rfl tz72 (fun g40 => ?_)
    refine VO.store (k := 8) (c' := [Value.int .i64 (((shipAck d0 d3).1).1), Value.int .i64 (((shipAck d0 d3).1).2.1), Value.int .u8 (((shipAck d0 d3).1).2.2.1), Value.int .i64 (((shipAck d0 d3).1).2.2.2.1), Value.slice q37_0_A4 ((((shipAck d0 d3).1).2.2.2.2.1).length) (q37_0_c4), Value.int .i64 (((shipAck d0 d3).1).2.2.2.2.2.1), Value.int .i64 (((shipAck d0 d3).1).2.2.2.2.2.2.1), Value.slice q37_0_A7 ((((shipAck d0 d3).1).2.2.2.2.2.2.2).length) (q37_0_c7)]) 141 rfl rfl (.inl tk72) rfl rfl rfl rfl rfl ?_
    refine VO.as ?_
    refine VO.keep [141, 138, 139, 136, 133, 134, 131, 128, 129, 126, 123, 124, 121, 118, 119, 116, 113, 114, 111, 108, 109, 104, 0] [(141, mone g40 (.cells [Value.int .i64 (((shipAck d0 d3).1).1), Value.int .i64 (((shipAck d0 d3).1).2.1), Value.int .u8 (((shipAck d0 d3).1).2.2.1), Value.int .i64 (((shipAck d0 d3).1).2.2.2.1), Value.slice q37_0_A4 ((((shipAck d0 d3).1).2.2.2.2.1).length) (q37_0_c4), Value.int .i64 (((shipAck d0 d3).1).2.2.2.2.2.1), Value.int .i64 (((shipAck d0 d3).1).2.2.2.2.2.2.1), Value.slice q37_0_A7 ((((shipAck d0 d3).1).2.2.2.2.2.2.2).length) (q37_0_c7)].toArray 72 (0, 0))), (138, q37_0_n4), (139, q37_0_n7), (136, mone g35 (.cells [Value.int .i64 (((shipAck d0 d3).1).1), Value.int .i64 (((shipAck d0 d3).1).2.1), Value.int .u8 (((shipAck d0 d3).1).2.2.1), Value.int .i64 (((shipAck d0 d3).1).2.2.2.1), Value.slice q32_0_A4 ((((shipAck d0 d3).1).2.2.2.2.1).length) (q32_0_c4), Value.int .i64 (((shipAck d0 d3).1).2.2.2.2.2.1), Value.int .i64 (((shipAck d0 d3).1).2.2.2.2.2.2.1), Value.slice q32_0_A7 ((((shipAck d0 d3).1).2.2.2.2.2.2.2).length) (q32_0_c7)].toArray 72 (0, 0))), (133, q32_0_n4), (134, q32_0_n7), (131, mone g30 (.cells [Value.int .i64 (((shipNext d0 d2 d3).1).1), Value.int .i64 (((shipNext d0 d2 d3).1).2.1), Value.int .u8 (((shipNext d0 d2 d3).1).2.2.1), Value.int .i64 (((shipNext d0 d2 d3).1).2.2.2.1), Value.slice q27_0_A4 ((((shipNext d0 d2 d3).1).2.2.2.2.1).length) (q27_0_c4), Value.int .i64 (((shipNext d0 d2 d3).1).2.2.2.2.2.1), Value.int .i64 (((shipNext d0 d2 d3).1).2.2.2.2.2.2.1), Value.slice q27_0_A7 ((((shipNext d0 d2 d3).1).2.2.2.2.2.2.2).length) (q27_0_c7)].toArray 72 (0, 0))), (128, q27_0_n4), (129, q27_0_n7), (126, mone g25 (.cells [Value.int .i64 (((shipNext d0 d2 d3).1).1), Value.int .i64 (((shipNext d0 d2 d3).1).2.1), Value.int .u8 (((shipNext d0 d2 d3).1).2.2.1), Value.int .i64 (((shipNext d0 d2 d3).1).2.2.2.1), Value.slice q22_0_A4 ((((shipNext d0 d2 d3).1).2.2.2.2.1).length) (q22_0_c4), Value.int .i64 (((shipNext d0 d2 d3).1).2.2.2.2.2.1), Value.int .i64 (((shipNext d0 d2 d3).1).2.2.2.2.2.2.1), Value.slice q22_0_A7 ((((shipNext d0 d2 d3).1).2.2.2.2.2.2.2).length) (q22_0_c7)].toArray 72 (0, 0))), (123, q22_0_n4), (124, q22_0_n7), (121, mone g20 (.cells [Value.int .i64 (((shipNext d0 d2 d3).1).1), Value.int .i64 (((shipNext d0 d2 d3).1).2.1), Value.int .u8 (((shipNext d0 d2 d3).1).2.2.1), Value.int .i64 (((shipNext d0 d2 d3).1).2.2.2.1), Value.slice q17_0_A4 ((((shipNext d0 d2 d3).1).2.2.2.2.1).length) (q17_0_c4), Value.int .i64 (((shipNext d0 d2 d3).1).2.2.2.2.2.1), Value.int .i64 (((shipNext d0 d2 d3).1).2.2.2.2.2.2.1), Value.slice q17_0_A7 ((((shipNext d0 d2 d3).1).2.2.2.2.2.2.2).length) (q17_0_c7)].toArray 72 (0, 0))), (118, q17_0_n4), (119, q17_0_n7), (116, mone g15 (.cells [Value.int .i64 (((shipHello d0 d1 d2).1).1), Value.int .i64 (((shipHello d0 d1 d2).1).2.1), Value.int .u8 (((shipHello d0 d1 d2).1).2.2.1), Value.int .i64 (((shipHello d0 d1 d2).1).2.2.2.1), Value.slice q12_0_A4 ((((shipHello d0 d1 d2).1).2.2.2.2.1).length) (q12_0_c4), Value.int .i64 (((shipHello d0 d1 d2).1).2.2.2.2.2.1), Value.int .i64 (((shipHello d0 d1 d2).1).2.2.2.2.2.2.1), Value.slice q12_0_A7 ((((shipHello d0 d1 d2).1).2.2.2.2.2.2.2).length) (q12_0_c7)].toArray 72 (0, 0))), (113, q12_0_n4), (114, q12_0_n7), (111, mone g10 (.cells [Value.int .i64 (((shipHello d0 d1 d2).1).1), Value.int .i64 (((shipHello d0 d1 d2).1).2.1), Value.int .u8 (((shipHello d0 d1 d2).1).2.2.1), Value.int .i64 (((shipHello d0 d1 d2).1).2.2.2.1), Value.slice q7_0_A4 ((((shipHello d0 d1 d2).1).2.2.2.2.1).length) (q7_0_c4), Value.int .i64 (((shipHello d0 d1 d2).1).2.2.2.2.2.1), Value.int .i64 (((shipHello d0 d1 d2).1).2.2.2.2.2.2.1), Value.slice q7_0_A7 ((((shipHello d0 d1 d2).1).2.2.2.2.2.2.2).length) (q7_0_c7)].toArray 72 (0, 0))), (108, q7_0_n4), (109, q7_0_n7), (104, m4), (0, wm W)] (by kernel_rfl) ?_
    refine VO.k22 0 1 2 3 8 9 10 11 12 13 14 15 16 17 19 20 21 22 23 24 26 29 ?_
    refine VC.seq ?_
    refine VC.rs ?_
    refine VO.mv ?_
    refine VO.mv ?_
    refine VO.y rfl (.neq rfl rfl) ?_
    refine VO.mv ?_
    refine VO.dec (t := 86) rfl (fun hc42 => ?_) (fun hc42 => ?_)
    · -- FT
      exact absurd rfl hc42
    · -- FF
      refine VO.gy rfl ⟨_, rfl, rfl⟩ (.mv rfl) ?_
      refine VO.gy rfl ⟨_, rfl, rfl⟩ (.mv rfl) ?_
      refine VO.gy rfl ⟨_, rfl, rfl⟩ (.neq rfl rfl) ?_
      refine VO.y rfl (.pF rfl rfl) ?_
      refine VO.mv ?_
      refine VO.dec (t := 91) rfl (fun hc43 => ?_) (fun hc43 => ?_)
      · -- FFT
        exact absurd rfl hc43
      · -- FFF
        refine VO.gy rfl ⟨_, rfl, rfl⟩ (.mv rfl) ?_
        refine VO.gy rfl ⟨_, rfl, rfl⟩ (.mv rfl) ?_
        refine VO.gy rfl ⟨_, rfl, rfl⟩ (.neq rfl rfl) ?_
        refine VO.y rfl (.pF rfl rfl) ?_
        refine VO.mv ?_
        refine VO.dec (t := 96) rfl (fun hc44 => ?_) (fun hc44 => ?_)
        · -- FFFT
          exact absurd rfl hc44
        · -- FFFF
          refine VO.gy rfl ⟨_, rfl, rfl⟩ (.ldA 111 rfl tk72 rfl (cellsAt_one rfl rfl)) ?_
          refine VO.gy rfl ⟨_, rfl, rfl⟩ (.ldA 116 rfl tk72 rfl (cellsAt_one rfl rfl)) ?_
          refine VO.gcallN 145 rfl ⟨_, rfl, rfl⟩ fnOk71 rfl (fun W hW => SameMessage_ok W (show Rd TMessage _ _ ((shipHello d0 d1 d2).1) from (mk_Message (m := wm W) (((shipHello d0 d1 d2).1).1) (((shipHello d0 d1 d2).1).2.1) (((shipHello d0 d1 d2).1).2.2.1) (((shipHello d0 d1 d2).1).2.2.2.1) (((shipHello d0 d1 d2).1).2.2.2.2.1) (((shipHello d0 d1 d2).1).2.2.2.2.2.1) (((shipHello d0 d1 d2).1).2.2.2.2.2.2.1) (((shipHello d0 d1 d2).1).2.2.2.2.2.2.2) (by simp only [inK]; (first | omega | (simp only [List.length_append, List.length_nil, List.length_cons, List.length_take, List.length_drop] at *; omega) | exact fun c hc => by have h_ := (Decidable.not_not.1 ‹¬ ¬ ((∀ c ∈ d2, c.2.2.length ≤ 40) ∧ _)›).1 c hc; omega)) (by simp only [inK]; (first | omega | (simp only [List.length_append, List.length_nil, List.length_cons, List.length_take, List.length_drop] at *; omega) | exact fun c hc => by have h_ := (Decidable.not_not.1 ‹¬ ¬ ((∀ c ∈ d2, c.2.2.length ≤ 40) ∧ _)›).1 c hc; omega)) (by simp only [inK]; (first | omega | (simp only [List.length_append, List.length_nil, List.length_cons, List.length_take, List.length_drop] at *; omega) | exact fun c hc => by have h_ := (Decidable.not_not.1 ‹¬ ¬ ((∀ c ∈ d2, c.2.2.length ≤ 40) ∧ _)›).1 c hc; omega)) (by simp only [inK]; (first | omega | (simp only [List.length_append, List.length_nil, List.length_cons, List.length_take, List.length_drop] at *; omega) | exact fun c hc => by have h_ := (Decidable.not_not.1 ‹¬ ¬ ((∀ c ∈ d2, c.2.2.length ≤ 40) ∧ _)›).1 c hc; omega)) (OwnL.rd (Ow.ownl q7_0_4 rfl mnil) (hW.at (i := 108) rfl) (mle_nil _)) (by simp only [inK]; (first | omega | (simp only [List.length_append, List.length_nil, List.length_cons, List.length_take, List.length_drop] at *; omega) | exact fun c hc => by have h_ := (Decidable.not_not.1 ‹¬ ¬ ((∀ c ∈ d2, c.2.2.length ≤ 40) ∧ _)›).1 c hc; omega)) (by simp only [inK]; (first | omega | (simp only [List.length_append, List.length_nil, List.length_cons, List.length_take, List.length_drop] at *; omega) | exact fun c hc => by have h_ := (Decidable.not_not.1 ‹¬ ¬ ((∀ c ∈ d2, c.2.2.length ≤ 40) ∧ _)›).1 c hc; omega)) (Ow.rd q7_0_7 (hW.at (i := 109) rfl)))) (show Rd TMessage _ _ ((shipHello d0 d1 d2).1) from (mk_Message (m := wm W) (((shipHello d0 d1 d2).1).1) (((shipHello d0 d1 d2).1).2.1) (((shipHello d0 d1 d2).1).2.2.1) (((shipHello d0 d1 d2).1).2.2.2.1) (((shipHello d0 d1 d2).1).2.2.2.2.1) (((shipHello d0 d1 d2).1).2.2.2.2.2.1) (((shipHello d0 d1 d2).1).2.2.2.2.2.2.1) (((shipHello d0 d1 d2).1).2.2.2.2.2.2.2) (by simp only [inK]; (first | omega | (simp only [List.length_append, List.length_nil, List.length_cons, List.length_take, List.length_drop] at *; omega) | exact fun c hc => by have h_ := (Decidable.not_not.1 ‹¬ ¬ ((∀ c ∈ d2, c.2.2.length ≤ 40) ∧ _)›).1 c hc; omega)) (by simp only [inK]; (first | omega | (simp only [List.length_append, List.length_nil, List.length_cons, List.length_take, List.length_drop] at *; omega) | exact fun c hc => by have h_ := (Decidable.not_not.1 ‹¬ ¬ ((∀ c ∈ d2, c.2.2.length ≤ 40) ∧ _)›).1 c hc; omega)) (by simp only [inK]; (first | omega | (simp only [List.length_append, List.length_nil, List.length_cons, List.length_take, List.length_drop] at *; omega) | exact fun c hc => by have h_ := (Decidable.not_not.1 ‹¬ ¬ ((∀ c ∈ d2, c.2.2.length ≤ 40) ∧ _)›).1 c hc; omega)) (by simp only [inK]; (first | omega | (simp only [List.length_append, List.length_nil, List.length_cons, List.length_take, List.length_drop] at *; omega) | exact fun c hc => by have h_ := (Decidable.not_not.1 ‹¬ ¬ ((∀ c ∈ d2, c.2.2.length ≤ 40) ∧ _)›).1 c hc; omega)) (OwnL.rd (Ow.ownl q12_0_4 rfl mnil) (hW.at (i := 113) rfl) (mle_nil _)) (by simp only [inK]; (first | omega | (simp only [List.length_append, List.length_nil, List.length_cons, List.length_take, List.length_drop] at *; omega) | exact fun c hc => by have h_ := (Decidable.not_not.1 ‹¬ ¬ ((∀ c ∈ d2, c.2.2.length ≤ 40) ∧ _)›).1 c hc; omega)) (by simp only [inK]; (first | omega | (simp only [List.length_append, List.length_nil, List.length_cons, List.length_take, List.length_drop] at *; omega) | exact fun c hc => by have h_ := (Decidable.not_not.1 ‹¬ ¬ ((∀ c ∈ d2, c.2.2.length ≤ 40) ∧ _)›).1 c hc; omega)) (Ow.rd q12_0_7 (hW.at (i := 114) rfl))))) (fun v45 m45 hv45 => ?_)
          subst hv45
          refine VO.gy rfl ⟨_, rfl, rfl⟩ (.notD rfl) ?_
          refine VO.y rfl (.pF rfl rfl) ?_
          refine VO.mv ?_
          refine VO.dec (t := 102) rfl (fun hc46 => ?_) (fun hc46 => ?_)
          · -- FFFFT
            exact absurd rfl hc46
          · -- FFFFF
            refine VO.gy rfl ⟨_, rfl, rfl⟩ (.ldA 121 rfl tk72 rfl (cellsAt_one rfl rfl)) ?_
            refine VO.gy rfl ⟨_, rfl, rfl⟩ (.ldA 131 rfl tk72 rfl (cellsAt_one rfl rfl)) ?_
            refine VO.gcallN 147 rfl ⟨_, rfl, rfl⟩ fnOk71 rfl (fun W hW => SameMessage_ok W (show Rd TMessage _ _ ((shipNext d0 d2 d3).1) from (mk_Message (m := wm W) (((shipNext d0 d2 d3).1).1) (((shipNext d0 d2 d3).1).2.1) (((shipNext d0 d2 d3).1).2.2.1) (((shipNext d0 d2 d3).1).2.2.2.1) (((shipNext d0 d2 d3).1).2.2.2.2.1) (((shipNext d0 d2 d3).1).2.2.2.2.2.1) (((shipNext d0 d2 d3).1).2.2.2.2.2.2.1) (((shipNext d0 d2 d3).1).2.2.2.2.2.2.2) (by simp only [inK]; (first | omega | (simp only [List.length_append, List.length_nil, List.length_cons, List.length_take, List.length_drop] at *; omega) | exact fun c hc => by have h_ := (Decidable.not_not.1 ‹¬ ¬ ((∀ c ∈ d2, c.2.2.length ≤ 40) ∧ _)›).1 c hc; omega)) (by simp only [inK]; (first | omega | (simp only [List.length_append, List.length_nil, List.length_cons, List.length_take, List.length_drop] at *; omega) | exact fun c hc => by have h_ := (Decidable.not_not.1 ‹¬ ¬ ((∀ c ∈ d2, c.2.2.length ≤ 40) ∧ _)›).1 c hc; omega)) (by simp only [inK]; (first | omega | (simp only [List.length_append, List.length_nil, List.length_cons, List.length_take, List.length_drop] at *; omega) | exact fun c hc => by have h_ := (Decidable.not_not.1 ‹¬ ¬ ((∀ c ∈ d2, c.2.2.length ≤ 40) ∧ _)›).1 c hc; omega)) (by simp only [inK]; (first | omega | (simp only [List.length_append, List.length_nil, List.length_cons, List.length_take, List.length_drop] at *; omega) | exact fun c hc => by have h_ := (Decidable.not_not.1 ‹¬ ¬ ((∀ c ∈ d2, c.2.2.length ≤ 40) ∧ _)›).1 c hc; omega)) (OwnL.rd (Ow.ownl q17_0_4 rfl mnil) (hW.at (i := 118) rfl) (mle_nil _)) (by simp only [inK]; (first | omega | (simp only [List.length_append, List.length_nil, List.length_cons, List.length_take, List.length_drop] at *; omega) | exact fun c hc => by have h_ := (Decidable.not_not.1 ‹¬ ¬ ((∀ c ∈ d2, c.2.2.length ≤ 40) ∧ _)›).1 c hc; omega)) (by simp only [inK]; (first | omega | (simp only [List.length_append, List.length_nil, List.length_cons, List.length_take, List.length_drop] at *; omega) | exact fun c hc => by have h_ := (Decidable.not_not.1 ‹¬ ¬ ((∀ c ∈ d2, c.2.2.length ≤ 40) ∧ _)›).1 c hc; omega)) (Ow.rd q17_0_7 (hW.at (i := 119) rfl)))) (show Rd TMessage _ _ ((shipNext d0 d2 d3).1) from (mk_Message (m := wm W) (((shipNext d0 d2 d3).1).1) (((shipNext d0 d2 d3).1).2.1) (((shipNext d0 d2 d3).1).2.2.1) (((shipNext d0 d2 d3).1).2.2.2.1) (((shipNext d0 d2 d3).1).2.2.2.2.1) (((shipNext d0 d2 d3).1).2.2.2.2.2.1) (((shipNext d0 d2 d3).1).2.2.2.2.2.2.1) (((shipNext d0 d2 d3).1).2.2.2.2.2.2.2) (by simp only [inK]; (first | omega | (simp only [List.length_append, List.length_nil, List.length_cons, List.length_take, List.length_drop] at *; omega) | exact fun c hc => by have h_ := (Decidable.not_not.1 ‹¬ ¬ ((∀ c ∈ d2, c.2.2.length ≤ 40) ∧ _)›).1 c hc; omega)) (by simp only [inK]; (first | omega | (simp only [List.length_append, List.length_nil, List.length_cons, List.length_take, List.length_drop] at *; omega) | exact fun c hc => by have h_ := (Decidable.not_not.1 ‹¬ ¬ ((∀ c ∈ d2, c.2.2.length ≤ 40) ∧ _)›).1 c hc; omega)) (by simp only [inK]; (first | omega | (simp only [List.length_append, List.length_nil, List.length_cons, List.length_take, List.length_drop] at *; omega) | exact fun c hc => by have h_ := (Decidable.not_not.1 ‹¬ ¬ ((∀ c ∈ d2, c.2.2.length ≤ 40) ∧ _)›).1 c hc; omega)) (by simp only [inK]; (first | omega | (simp only [List.length_append, List.length_nil, List.length_cons, List.length_take, List.length_drop] at *; omega) | exact fun c hc => by have h_ := (Decidable.not_not.1 ‹¬ ¬ ((∀ c ∈ d2, c.2.2.length ≤ 40) ∧ _)›).1 c hc; omega)) (OwnL.rd (Ow.ownl q27_0_4 rfl mnil) (hW.at (i := 128) rfl) (mle_nil _)) (by simp only [inK]; (first | omega | (simp only [List.length_append, List.length_nil, List.length_cons, List.length_take, List.length_drop] at *; omega) | exact fun c hc => by have h_ := (Decidable.not_not.1 ‹¬ ¬ ((∀ c ∈ d2, c.2.2.length ≤ 40) ∧ _)›).1 c hc; omega)) (by simp only [inK]; (first | omega | (simp only [List.length_append, List.length_nil, List.length_cons, List.length_take, List.length_drop] at *; omega) | exact fun c hc => by have h_ := (Decidable.not_not.1 ‹¬ ¬ ((∀ c ∈ d2, c.2.2.length ≤ 40) ∧ _)›).1 c hc; omega)) (Ow.rd q27_0_7 (hW.at (i := 129) rfl))))) (fun v47 m47 hv47 => ?_)
            subst hv47
            refine VO.gy rfl ⟨_, rfl, rfl⟩ (.notD rfl) ?_
            refine VO.y rfl (.pF rfl rfl) ?_
            refine VO.mv ?_
            refine VO.dec (t := 108) rfl (fun hc48 => ?_) (fun hc48 => ?_)
            · -- FFFFFT
              exact absurd rfl hc48
            · -- FFFFFF
              refine VO.gy rfl ⟨_, rfl, rfl⟩ (.ldA 136 rfl tk72 rfl (cellsAt_one rfl rfl)) ?_
              refine VO.gy rfl ⟨_, rfl, rfl⟩ (.ldA 141 rfl tk72 rfl (cellsAt_one rfl rfl)) ?_
              refine VO.gcallN 149 rfl ⟨_, rfl, rfl⟩ fnOk71 rfl (fun W hW => SameMessage_ok W (show Rd TMessage _ _ ((shipAck d0 d3).1) from (mk_Message (m := wm W) (((shipAck d0 d3).1).1) (((shipAck d0 d3).1).2.1) (((shipAck d0 d3).1).2.2.1) (((shipAck d0 d3).1).2.2.2.1) (((shipAck d0 d3).1).2.2.2.2.1) (((shipAck d0 d3).1).2.2.2.2.2.1) (((shipAck d0 d3).1).2.2.2.2.2.2.1) (((shipAck d0 d3).1).2.2.2.2.2.2.2) (by simp only [inK]; (first | omega | (simp only [List.length_append, List.length_nil, List.length_cons, List.length_take, List.length_drop] at *; omega) | exact fun c hc => by have h_ := (Decidable.not_not.1 ‹¬ ¬ ((∀ c ∈ d2, c.2.2.length ≤ 40) ∧ _)›).1 c hc; omega)) (by simp only [inK]; (first | omega | (simp only [List.length_append, List.length_nil, List.length_cons, List.length_take, List.length_drop] at *; omega) | exact fun c hc => by have h_ := (Decidable.not_not.1 ‹¬ ¬ ((∀ c ∈ d2, c.2.2.length ≤ 40) ∧ _)›).1 c hc; omega)) (by simp only [inK]; (first | omega | (simp only [List.length_append, List.length_nil, List.length_cons, List.length_take, List.length_drop] at *; omega) | exact fun c hc => by have h_ := (Decidable.not_not.1 ‹¬ ¬ ((∀ c ∈ d2, c.2.2.length ≤ 40) ∧ _)›).1 c hc; omega)) (by simp only [inK]; (first | omega | (simp only [List.length_append, List.length_nil, List.length_cons, List.length_take, List.length_drop] at *; omega) | exact fun c hc => by have h_ := (Decidable.not_not.1 ‹¬ ¬ ((∀ c ∈ d2, c.2.2.length ≤ 40) ∧ _)›).1 c hc; omega)) (OwnL.rd (Ow.ownl q32_0_4 rfl mnil) (hW.at (i := 133) rfl) (mle_nil _)) (by simp only [inK]; (first | omega | (simp only [List.length_append, List.length_nil, List.length_cons, List.length_take, List.length_drop] at *; omega) | exact fun c hc => by have h_ := (Decidable.not_not.1 ‹¬ ¬ ((∀ c ∈ d2, c.2.2.length ≤ 40) ∧ _)›).1 c hc; omega)) (by simp only [inK]; (first | omega | (simp only [List.length_append, List.length_nil, List.length_cons, List.length_take, List.length_drop] at *; omega) | exact fun c hc => by have h_ := (Decidable.not_not.1 ‹¬ ¬ ((∀ c ∈ d2, c.2.2.length ≤ 40) ∧ _)›).1 c hc; omega)) (Ow.rd q32_0_7 (hW.at (i := 134) rfl)))) (show Rd TMessage _ _ ((shipAck d0 d3).1) from (mk_Message (m := wm W) (((shipAck d0 d3).1).1) (((shipAck d0 d3).1).2.1) (((shipAck d0 d3).1).2.2.1) (((shipAck d0 d3).1).2.2.2.1) (((shipAck d0 d3).1).2.2.2.2.1) (((shipAck d0 d3).1).2.2.2.2.2.1) (((shipAck d0 d3).1).2.2.2.2.2.2.1) (((shipAck d0 d3).1).2.2.2.2.2.2.2) (by simp only [inK]; (first | omega | (simp only [List.length_append, List.length_nil, List.length_cons, List.length_take, List.length_drop] at *; omega) | exact fun c hc => by have h_ := (Decidable.not_not.1 ‹¬ ¬ ((∀ c ∈ d2, c.2.2.length ≤ 40) ∧ _)›).1 c hc; omega)) (by simp only [inK]; (first | omega | (simp only [List.length_append, List.length_nil, List.length_cons, List.length_take, List.length_drop] at *; omega) | exact fun c hc => by have h_ := (Decidable.not_not.1 ‹¬ ¬ ((∀ c ∈ d2, c.2.2.length ≤ 40) ∧ _)›).1 c hc; omega)) (by simp only [inK]; (first | omega | (simp only [List.length_append, List.length_nil, List.length_cons, List.length_take, List.length_drop] at *; omega) | exact fun c hc => by have h_ := (Decidable.not_not.1 ‹¬ ¬ ((∀ c ∈ d2, c.2.2.length ≤ 40) ∧ _)›).1 c hc; omega)) (by simp only [inK]; (first | omega | (simp only [List.length_append, List.length_nil, List.length_cons, List.length_take, List.length_drop] at *; omega) | exact fun c hc => by have h_ := (Decidable.not_not.1 ‹¬ ¬ ((∀ c ∈ d2, c.2.2.length ≤ 40) ∧ _)›).1 c hc; omega)) (OwnL.rd (Ow.ownl q37_0_4 rfl mnil) (hW.at (i := 138) rfl) (mle_nil _)) (by simp only [inK]; (first | omega | (simp only [List.length_append, List.length_nil, List.length_cons, List.length_take, List.length_drop] at *; omega) | exact fun c hc => by have h_ := (Decidable.not_not.1 ‹¬ ¬ ((∀ c ∈ d2, c.2.2.length ≤ 40) ∧ _)›).1 c hc; omega)) (by simp only [inK]; (first | omega | (simp only [List.length_append, List.length_nil, List.length_cons, List.length_take, List.length_drop] at *; omega) | exact fun c hc => by have h_ := (Decidable.not_not.1 ‹¬ ¬ ((∀ c ∈ d2, c.2.2.length ≤ 40) ∧ _)›).1 c hc; omega)) (Ow.rd q37_0_7 (hW.at (i := 139) rfl))))) (fun v49 m49 hv49 => ?_)
              subst hv49
              refine VO.gy rfl ⟨_, rfl, rfl⟩ (.notD rfl) ?_
              refine VO.y rfl (.pF rfl rfl) ?_
              refine VO.mv ?_
              refine VO.dec (t := 114) rfl (fun hc50 => ?_) (fun hc50 => ?_)
              · -- FFFFFFT
                exact absurd rfl hc50
              · -- FFFFFFF
                refine VO.gy rfl ⟨_, rfl, rfl⟩ (.mv rfl) ?_
                refine VO.gy rfl ⟨_, rfl, rfl⟩ (.mv rfl) ?_
                refine VO.gcallN 151 rfl ⟨_, rfl, rfl⟩ fnOk55 rfl (fun W hW => KeptCommits_ok W (Ow.rd f4_0 (hW.at (i := 104) rfl)) (Rd.mono h2 (hW.at (i := 0) rfl)) (by rfl) (by first | omega | (simp only [List.length_append, List.length_nil, List.length_cons, List.length_take, List.length_drop] at *; omega) | exact fun c hc => by have h_ := (Decidable.not_not.1 ‹¬ ¬ ((∀ c ∈ d2, c.2.2.length ≤ 40) ∧ _)›).1 c hc; omega) (by exact fun c hc => by have h_ := (Decidable.not_not.1 ‹¬ ¬ ((∀ c ∈ d2, c.2.2.length ≤ 40) ∧ _)›).1 c hc; omega)) (fun v51 m51 hv51 => ?_)
                subst hv51
                refine VO.gy rfl ⟨_, rfl, rfl⟩ (.not rfl) ?_
                refine VO.y rfl (.pF rfl rfl) ?_
                refine VO.k23 0 1 2 3 8 9 10 11 12 13 14 15 16 17 19 20 21 22 23 24 26 29 119 ?_
                refine VC.condF rfl ?_
                refine VC.skip ?_
                refine outN ?_
                refine VC.rs ?_
                refine VO.y rfl (.fa rfl tst72 rfl) ?_
                refine VO.y rfl (.ld1 121 rfl tk61 rfl (cellsAt_one rfl rfl)) ?_
                refine VO.y rfl (.fa rfl tst72 rfl) ?_
                refine VO.y rfl (.ld1 126 rfl tk61 rfl (cellsAt_one rfl rfl)) ?_
                refine VO.mv ?_
                refine VO.bsl (cs := [Value.slice q17_0_A7 ((((shipNext d0 d2 d3).1).2.2.2.2.2.2.2).length) (q17_0_c7), Value.slice q22_0_A7 ((((shipNext d0 d2 d3).1).2.2.2.2.2.2.2).length) (q22_0_c7), Value.slice A4_0 (d2.length) (c4_0)]) 153 rfl rfl tsl81 tz61 rfl rfl (fun g52 => ?_)
                refine VO.gather (l := [mone g52 (.cells [Value.slice q17_0_A7 ((((shipNext d0 d2 d3).1).2.2.2.2.2.2.2).length) (q17_0_c7), Value.slice q22_0_A7 ((((shipNext d0 d2 d3).1).2.2.2.2.2.2.2).length) (q22_0_c7), Value.slice A4_0 (d2.length) (c4_0)].toArray 61 (0, 0)), q17_0_n7, q22_0_n7, m4]) 156 [153, 119, 124, 104] rfl (fun hg55 => ?_)
                have ho55 : Ow (.sl (.sl TCommit)) (muns [mone g52 (.cells [Value.slice q17_0_A7 ((((shipNext d0 d2 d3).1).2.2.2.2.2.2.2).length) (q17_0_c7), Value.slice q22_0_A7 ((((shipNext d0 d2 d3).1).2.2.2.2.2.2.2).length) (q22_0_c7), Value.slice A4_0 (d2.length) (c4_0)].toArray 61 (0, 0)), q17_0_n7, q22_0_n7, m4]) [Value.slice (some ⟨g52, 0, none⟩) (3) (3)] [((shipNext d0 d2 d3).1).2.2.2.2.2.2.2, ((shipNext d0 d2 d3).1).2.2.2.2.2.2.2, d2] := Ow.lit 3 (Seps.grp1 (ls := [[q17_0_n7], [q22_0_n7], [m4]]) hg55) (OwAs.cons (m := muns [q17_0_n7]) (c1 := [Value.slice q17_0_A7 ((((shipNext d0 d2 d3).1).2.2.2.2.2.2.2).length) (q17_0_c7)]) (Ow.up q17_0_7 ((Seps.self hg55 (List.Sublist.cons _ (List.Sublist.cons_cons _ (List.Sublist.cons _ (List.Sublist.cons _ List.Sublist.slnil))))).1 _ (.head _))) (OwAs.cons (m := muns [q22_0_n7]) (c1 := [Value.slice q22_0_A7 ((((shipNext d0 d2 d3).1).2.2.2.2.2.2.2).length) (q22_0_c7)]) (Ow.up q22_0_7 ((Seps.self hg55 (List.Sublist.cons _ (List.Sublist.cons _ (List.Sublist.cons_cons _ (List.Sublist.cons _ List.Sublist.slnil))))).1 _ (.head _))) (OwAs.cons (m := muns [m4]) (c1 := [Value.slice A4_0 (d2.length) (c4_0)]) (Ow.up (lent_ow (f4_0.pre (j := d2.length) (by first | omega | (simp only [List.length_append, List.length_nil, List.length_cons, List.length_take, List.length_drop] at *; omega) | exact fun c hc => by have h_ := (Decidable.not_not.1 ‹¬ ¬ ((∀ c ∈ d2, c.2.2.length ≤ 40) ∧ _)›).1 c hc; omega))) ((Seps.self hg55 (List.Sublist.cons _ (List.Sublist.cons _ (List.Sublist.cons _ (List.Sublist.cons_cons _ List.Sublist.slnil))))).1 _ (.head _))) OwAs.nil))) rfl rfl
                refine VO.call 156 rfl fnOk76 rfl rfl (fun W hW => ApartCommits_ok W (hW.at (i := 156) rfl) ho55 (by first | omega | (simp only [List.length_append, List.length_nil, List.length_cons, List.length_take, List.length_drop] at *; omega) | exact fun c hc => by have h_ := (Decidable.not_not.1 ‹¬ ¬ ((∀ c ∈ d2, c.2.2.length ≤ 40) ∧ _)›).1 c hc; omega) (by exact (three_a (next_comms _ _ _).1 (next_comms _ _ _).1 (by omega)).1) (by exact (three_a (next_comms _ _ _).1 (next_comms _ _ _).1 (by omega)).2) (by exact three_b (next_comms _ _ _).2 (next_comms _ _ _).2 (Decidable.not_not.1 ‹¬ ¬ ((∀ c ∈ d2, c.2.2.length ≤ 40) ∧ _)›).1 e0)) (fun v54 m54 hv54 => ?_)
                subst hv54
                refine VO.as ?_
                refine VO.k23 0 1 2 3 8 9 10 11 12 13 14 15 16 17 19 20 21 22 23 24 26 29 119 ?_
                refine VC.ret ?_
                refine ⟨_, _, res_run (rs := [.tmp 8]) rfl (.tmp rfl .nil), fun W_ hI => out_of (l := []) hI [] rfl rfl (mle_refl _) (fun hS_ => ?_)⟩
                dsimp only [packV]
                all_goals (first | rfl | (simp [*]; done))
end
section
set_option linter.unusedVariables false
set_option maxRecDepth 4000
open Go.ChangeShapes Go.WideShapes Go.ChangeAt Go.RowKit
theorem shipCalls_ok2 : tyOk Try.prog 60 (.sl TCommit) (.inl 61) = true := by kernel_rfl
set_option maxRecDepth 100000 in
theorem shipCalls_lifted (os : Os) (started : os.Started) (H : Type) (enc : TypeId × Value → H) :
    ReturnsInHanded {} Try.checked os 16 .any (Rows.shipCallsSpec.pre6 enc Try.prog Try.f16 Rows.shipCallsRow.domain false) (Rows.shipCallsSpec.post enc Try.prog Try.f16 false true false false) := by
  refine returnsInHanded_of_change_sized (C := Try.checked) (by kernel_rfl) started (by kernel_rfl) Try.func16
    (ChangeSpec.witness6 (enc := enc) (C := Try.checked) false ⟨#[], #[.int .i64 0, .int .u8 0, .slice none 0 0, .int .i64 0], []⟩ 8 (by kernel_rfl) (by kernel_rfl) (by kernel_rfl) (by kernel_rfl)) ?_
  intro W base args ds gs before hval0 hW hcnd hsz0 _
  have hsz : (DataW.weightsEach Try.prog (Try.f16.params.toList ++ Rows.shipCallsSpec.plain.varTypes Try.prog) (ds ++ gs)).all (· ≤ reachBytes) = true := hsz0
  have hval : ∀ (j : Nat) t v, Try.f16.params[j]? = some t → args[j]? = some v → Value.okWide Try.prog W .any base t v := hval0
  have hW' := hW
  obtain ⟨p, q, hA0, hV, rfl, hfz, hnd⟩ := hW
  have hA : DataW.TrodAll enc Try.prog W 0 (fun _ => true) true Try.f16.params.toList args.toList ds p := hA0
  rw [Try.params16] at hA hval hsz
  clear hA0 hval0
  obtain ⟨args⟩ := args
  obtain ⟨v0, r0, d0, e0, p0, q0, ha0, rfl, rfl, h0, hA0⟩ := trodAll_cons hA
  simp only at ha0; subst ha0
  obtain ⟨v1, r1, d1, e1, p1, q1, ha1, rfl, rfl, h1, hA1⟩ := trodAll_cons hA0
  subst ha1
  obtain ⟨v2, r2, d2, e2, p2, q2, ha2, rfl, rfl, h2, hA2⟩ := trodAll_cons hA1
  subst ha2
  obtain ⟨v3, r3, d3, e3, p3, q3, ha3, rfl, rfl, h3, hA3⟩ := trodAll_cons hA2
  subst ha3
  obtain ⟨rfl, rfl, rfl⟩ := trodAll_nil hA3
  obtain ⟨x0, rfl, hx0⟩ := arg_int Try.underlying3 (hval 0 3 v0 rfl rfl) h0
  obtain ⟨x1, rfl, hx1⟩ := arg_int Try.underlying69 (hval 1 69 v1 rfl rfl) h1
  obtain ⟨x2, hx2, fit2⟩ := arg_slF (j := 2) 60 shipCalls_ok2 Try.underlying61 (hval 2 61 v2 rfl rfl) h2 hsz rfl rfl
  obtain ⟨x3, rfl, hx3⟩ := arg_int Try.underlying3 (hval 3 3 v3 rfl rfl) h3
  have lim2 := arg_lim hsz (j := 2) rfl rfl Try.underlying61 (b := 40) (by kernel_rfl) h2 hx2
  refine (calls_of (shipCalls_ok W x0 hx0 x1 hx1 hx2 x3 hx3 (by exact fun c hc o ho => txt_fit ((fit2.2 c hc).2.2.2 o ho).2.1))).mono fun e W' ⟨he, hg⟩ => ?_
  subst he
  exact ⟨_, rfl, law_post hW' hg laidOut_ok (by kernel_rfl) rfl Try.underlying4 rfl rfl rfl rfl⟩
theorem shipCalls_joined : joinedFacts Try.prog 16 Try.f16 Rows.shipCallsSpec Rows.shipCallsRow = true := by
  unfold joinedFacts
  rw [laidOut_ok, mapsRowed_ok, stopsHeard_ok, mayEnter_ok, lifts_ok, make_ok]
  kernel_rfl
theorem shipCalls_proved : Rows.ShipCallsSaid :=
  OpenClaim.holds_of_wide 16 Try.f16 rfl rfl rfl rfl rfl rfl rfl ⟨rfl, rfl, rfl, rfl, rfl⟩ rfl rfl rfl rfl rfl (by kernel_rfl) Try.func16 shipCalls_joined
    (of_decide_eq_true (by kernel_rfl)) (by unfold Func.isWrapper; first | (rw [if_pos (by decide +kernel)]; kernel_rfl) | (rw [if_neg (by decide +kernel)]; exact ⟨rfl, rfl⟩))
    (fun os started H enc _ => shipCalls_lifted os started H enc)
#print axioms shipCalls_proved
end
end Go.Proofs.Ytfaknkkaegjdaaa
